import Derived.Test.Qxb6500569aGreatXb
/- The real machine against the plain one. -/
namespace Go.Proofs.Qxb6500569aGreat
set_option linter.unusedVariables false
set_option linter.unusedSimpArgs false

def IdOK (cls : List Cl2) (id : UInt8) : Prop := ∃ j cl, id.toNat = 48 + j ∧ j < 8 ∧ cls[j]? = some cl ∧ cl ∈ cls ∧ cls.getD (id.toNat - 48) ([], []) = cl

structure ChOK (cls : List Cl2) (frs : List Frm) (proof : List UInt8) (i : Nat) (c : Ch) (q : Cho) : Prop where
  goal : q.goal = c.goal
  chain : Chain (frs.take q.fr) q.next c.next
  alts : q.alts = c.alts
  fr : q.fr ≤ frs.length
  prf : proof.take q.pr = c.proof
  pr : q.pr ≤ proof.length
  ip : i ≤ q.pr
  hok : HOK c.hp
  a4 : A4 c.hp
  gl : c.goal < c.hp.length
  gn : ∀ g ∈ c.next, g.1 < c.hp.length ∧ g.2 ≤ i
  pw : c.next.Pairwise (fun a b => b.2 ≤ a.2)
  an : c.alts ≠ []
  av : ∀ id ∈ c.alts, IdOK cls id
  ft : Fit (frs.take q.fr) c.hp.length

structure RelK (cls : List Cl2) (frs : List Frm) (proof : List UInt8) (chs : List Cho) (sn : List (List Nd)) (K : List Ch) : Prop where
  len : chs.length = K.length
  ch : ∀ (i : Nat) (c : Ch) (q : Cho), K.reverse[i]? = some c → chs[i]? = some q → ChOK cls frs proof i c q
  mono : ∀ (i j : Nat) (qi qj : Cho), i < j → chs[i]? = some qi → chs[j]? = some qj → qi.fr ≤ qj.fr ∧ qi.pr < qj.pr
  sn : sn = K.reverse.map (·.hp)
  km : K.Pairwise (fun a b => b.hp.length ≤ a.hp.length)

theorem RelK.sl {cls : List Cl2} {frs : List Frm} {proof : List UInt8} {chs : List Cho} {sn : List (List Nd)} {K : List Ch} (h : RelK cls frs proof chs sn K) : sn.length = K.length := by rw [h.sn]; simp

theorem ChOK.grow {cls : List Cl2} {frs x : List Frm} {proof y : List UInt8} {i : Nat} {c : Ch} {q : Cho} (h : ChOK cls frs proof i c q) : ChOK cls (frs ++ x) (proof ++ y) i c q :=
  { h with
    chain := by rw [List.take_append_of_le_length h.fr]; exact h.chain
    fr := by have := h.fr; simp; omega
    prf := by rw [List.take_append_of_le_length h.pr]; exact h.prf
    pr := by have := h.pr; simp; omega
    ft := by rw [List.take_append_of_le_length h.fr]; exact h.ft }

theorem RelK.grow {cls : List Cl2} {frs x : List Frm} {proof y : List UInt8} {chs : List Cho} {sn : List (List Nd)} {K : List Ch} (h : RelK cls frs proof chs sn K) : RelK cls (frs ++ x) (proof ++ y) chs sn K :=
  ⟨h.len, fun i c q h1 h2 => (h.ch i c q h1 h2).grow, h.mono, h.sn, h.km⟩

theorem cutK_rev (n : Nat) (K : List Ch) : (cutK n K).reverse = K.reverse.take n := by
  unfold cutK
  rw [List.reverse_drop]
  by_cases h : n ≤ K.length
  · congr 1; omega
  · rw [show K.length - (K.length - n) = K.length by omega, List.take_of_length_le (by simp), List.take_of_length_le (by simp; omega)]

theorem RelK.cut {cls : List Cl2} {frs : List Frm} {proof : List UInt8} {chs : List Cho} {sn : List (List Nd)} {K : List Ch} (h : RelK cls frs proof chs sn K) {n : Nat} (hn : n ≤ K.length) : RelK cls frs proof (chs.take n) (sn.take n) (cutK n K) := by
  refine ⟨by rw [cutK_len hn, List.length_take, h.len]; omega, ?_, ?_, ?_, List.Pairwise.drop h.km⟩
  · intro i c q h1 h2
    rw [cutK_rev, List.getElem?_take] at h1
    rw [List.getElem?_take] at h2
    split at h1
    · rename_i hi
      rw [if_pos hi] at h2
      exact h.ch i c q h1 h2
    · cases h1
  · intro i j qi qj hij h1 h2
    rw [List.getElem?_take] at h1 h2
    split at h1
    · split at h2
      · exact h.mono i j qi qj hij h1 h2
      · cases h2
    · cases h1
  · rw [cutK_rev, h.sn, List.map_take]

theorem RelK.push {cls : List Cl2} {frs : List Frm} {proof : List UInt8} {chs : List Cho} {sn : List (List Nd)} {K : List Ch} (h : RelK cls frs proof chs sn K) {c : Ch} {q : Cho} (hc : ChOK cls frs proof K.length c q) (hf : q.fr = frs.length) (hp : q.pr = proof.length) (hps : ∀ z ∈ chs, z.pr < proof.length) (hkh : ∀ z ∈ K, z.hp.length ≤ c.hp.length) : RelK cls frs proof (chs ++ [q]) (sn ++ [c.hp]) (c :: K) := by
  refine ⟨by simp [h.len], ?_, ?_, ?_, .cons hkh h.km⟩
  · intro i c' q' h1 h2
    rw [List.reverse_cons] at h1
    by_cases hi : i < K.length
    · rw [List.getElem?_append_left (by simpa using hi)] at h1
      rw [List.getElem?_append_left (by rw [h.len]; exact hi)] at h2
      exact h.ch i c' q' h1 h2
    · have hie : i = K.length := by have := (List.getElem?_eq_some_iff.1 h1).1; simp at this; omega
      subst hie
      rw [List.getElem?_append_right (by simp)] at h1
      rw [List.getElem?_append_right (by rw [h.len]; omega)] at h2
      simp at h1
      rw [h.len] at h2
      simp at h2
      subst h1 h2
      exact hc
  · intro i j qi qj hij h1 h2
    by_cases hj : j < chs.length
    · rw [List.getElem?_append_left hj] at h2
      rw [List.getElem?_append_left (by omega)] at h1
      exact h.mono i j qi qj hij h1 h2
    · have hje : j = chs.length := by have := (List.getElem?_eq_some_iff.1 h2).1; simp at this; omega
      rw [List.getElem?_append_right (by omega)] at h2
      rw [hje] at h2
      simp at h2
      subst h2
      have hi : i < chs.length := by omega
      rw [List.getElem?_append_left hi] at h1
      obtain ⟨c', hc'⟩ : ∃ c', K.reverse[i]? = some c' := ⟨_, List.getElem?_eq_getElem (by simp; rw [← h.len]; exact hi)⟩
      have := h.ch i c' qi hc' h1
      have a1 := this.fr; have a2 := hps qi (List.mem_of_getElem? h1)
      omega
  · rw [List.reverse_cons, List.map_append, h.sn]; rfl

/-- Back to the top choice: the frames and the proof are shortened. -/
theorem RelK.back {cls : List Cl2} {frs : List Frm} {proof : List UInt8} {chs : List Cho} {q : Cho} {sn : List (List Nd)} {K : List Ch} {c : Ch} (h : RelK cls frs proof (chs ++ [q]) sn (c :: K)) :
    ChOK cls frs proof K.length c q ∧ RelK cls (frs.take q.fr) (proof.take q.pr) chs (K.reverse.map (·.hp)) K ∧ ChOK cls (frs.take q.fr) (proof.take q.pr) K.length c q ∧ (∀ z ∈ chs, z.pr < q.pr) ∧ (∀ z ∈ K, z.hp.length ≤ c.hp.length) := by
  have hl : chs.length = K.length := by have := h.len; simp at this; exact this
  have hc := h.ch K.length c q (by simp) (by rw [← hl]; simp)
  have f1 := hc.fr
  have f2 := hc.pr
  have hkm := h.km
  rw [List.pairwise_cons] at hkm
  refine ⟨hc, ⟨hl, ?_, ?_, rfl, hkm.2⟩, ?_, ?_, hkm.1⟩
  · intro i c' q' h1 h2
    have hi := (List.getElem?_eq_some_iff.1 h2).1
    have h2' : (chs ++ [q])[i]? = some q' := by rw [List.getElem?_append_left hi]; exact h2
    have hx := h.ch i c' q' (by rw [List.reverse_cons, List.getElem?_append_left (by simp; omega)]; exact h1) h2'
    have hm := h.mono i chs.length q' q (by omega) h2' (by simp)
    have hm2 := Nat.le_of_lt hm.2
    exact { hx with
      chain := by rw [List.take_take, Nat.min_eq_left hm.1]; exact hx.chain
      fr := by rw [List.length_take]; omega
      prf := by rw [List.take_take, Nat.min_eq_left hm2]; exact hx.prf
      pr := by rw [List.length_take]; omega
      ft := by rw [List.take_take, Nat.min_eq_left hm.1]; exact hx.ft }
  · intro i j qi qj hij h1 h2
    have hj := (List.getElem?_eq_some_iff.1 h2).1
    exact h.mono i j qi qj hij (by rw [List.getElem?_append_left (by omega)]; exact h1) (by rw [List.getElem?_append_left hj]; exact h2)
  · exact { hc with
      chain := by rw [List.take_take, Nat.min_self]; exact hc.chain
      fr := by rw [List.length_take]; omega
      prf := by rw [List.take_take, Nat.min_self]; exact hc.prf
      pr := by rw [List.length_take]; omega
      ft := by rw [List.take_take, Nat.min_self]; exact hc.ft }
  · intro z hz
    obtain ⟨i, hi⟩ := List.getElem?_of_mem hz
    have hil := (List.getElem?_eq_some_iff.1 hi).1
    exact (h.mono i chs.length z q hil (by rw [List.getElem?_append_left hil]; exact hi) (by simp)).2

theorem RelK.prle {cls : List Cl2} {frs : List Frm} {proof : List UInt8} {chs : List Cho} {sn : List (List Nd)} {K : List Ch} (h : RelK cls frs proof chs sn K) : ∀ q ∈ chs, q.pr ≤ proof.length := by
  intro q hq
  obtain ⟨i, hi⟩ := List.getElem?_of_mem hq
  have hil := (List.getElem?_eq_some_iff.1 hi).1
  obtain ⟨c', hc'⟩ : ∃ c', K.reverse[i]? = some c' := ⟨_, List.getElem?_eq_getElem (by simp; rw [← h.len]; exact hil)⟩
  exact (h.ch i c' q hc' hi).pr

/-- The counts only rise. -/
theorem mrun_mono {cls : List Cl2} {fuel : Nat} : ∀ (n : Nat) (b : Bool) (s : Ms) (x : Nat × Ms), mrun cls fuel n b s = some x → s.inf ≤ x.2.inf ∧ s.tried ≤ x.2.tried
  | 0, b, s, x, h => by simp [mrun] at h
  | n + 1, b, s, x, h => by
    have htry : ∀ (s : Ms) (g : Nat) (nx : List Gf) (bar : Nat) (id : UInt8), tryM cls fuel (mrun cls fuel n) s g nx bar id = some x → s.inf ≤ x.2.inf ∧ s.tried ≤ x.2.tried := by
      intro s g nx bar id h
      simp only [tryM] at h
      split at h
      · cases h; simp
      split at h
      · cases h; simp
      split at h
      · have := mrun_mono n _ _ x h; simp at this; omega
      split at h
      · cases h; simp
      · have := mrun_mono n _ _ x h; simp at this; omega
    cases b with
    | true =>
      simp only [mrun] at h
      split at h
      · cases h; simp
      · have := htry ⟨_, _, _, _, _, _⟩ _ _ _ _ h; simpa using this
    | false =>
      simp only [mrun] at h
      split at h
      · cases h; simp
      · split at h
        · have := mrun_mono n _ _ x h; simp at this; exact this
        · split at h
          · exact mrun_mono n _ _ x h
          · have := htry ⟨_, _, _, _, _, _⟩ _ _ _ _ h; simpa using this

theorem tryM_mono {cls : List Cl2} {fuel n : Nat} {s : Ms} {g : Nat} {nx : List Gf} {bar : Nat} {id : UInt8} {x : Nat × Ms} (h : tryM cls fuel (mrun cls fuel n) s g nx bar id = some x) : s.inf ≤ x.2.inf ∧ s.tried + 1 ≤ x.2.tried := by
  simp only [tryM] at h
  split at h
  · cases h; simp
  split at h
  · cases h; simp
  split at h
  · have := mrun_mono n _ _ x h; simp at this; omega
  split at h
  · cases h; simp
  · have := mrun_mono n _ _ x h; simp at this; omega

/-- The machine between two points of its run. -/
structure Inv0 (w w' : World) (sb : Nat) (L : HL) (pb : Nat) (V0 : Value × Value × Value) (s0 : RSt) (V : Value × Value × Value) (s : RSt) (Fp : Nat → Prop) : Prop where
  m : SRm w'.heap sb L pb V.1 V.2.1 V.2.2 s Fp
  cst : s.cls = s0.cls ∧ s.opn = s0.opn ∧ s.q = s0.q ∧ s.fuel = s0.fuel ∧ s.given = s0.given
  nf : ∀ b, V.1.ownBlock = some b → V0.1.ownBlock = some b ∨ w.heap.size ≤ b
  ng : ∀ b, V.2.1.ownBlock = some b → V0.2.1.ownBlock = some b ∨ w.heap.size ≤ b
  np : ∀ b, V.2.2.ownBlock = some b → V0.2.2.ownBlock = some b ∨ w.heap.size ≤ b
  fr : Fram (SFt sb L V0.1 V0.2.1 V0.2.2) w w'

theorem Inv0.step {w w1 w2 : World} {sb : Nat} {L : HL} {pb : Nat} {V0 V V' : Value × Value × Value} {s0 s s' : RSt} {Fp : Nat → Prop} (h : Inv0 w w1 sb L pb V0 s0 V s Fp) (m : SRm w2.heap sb L pb V'.1 V'.2.1 V'.2.2 s' Fp) (hF : Fram (SFt sb L V.1 V.2.1 V.2.2) w1 w2)
    (c : s'.cls = s.cls ∧ s'.opn = s.opn ∧ s'.q = s.q ∧ s'.fuel = s.fuel ∧ s'.given = s.given)
    (nf : ∀ b, V'.1.ownBlock = some b → V.1.ownBlock = some b ∨ w1.heap.size ≤ b) (ng : ∀ b, V'.2.1.ownBlock = some b → V.2.1.ownBlock = some b ∨ w1.heap.size ≤ b) (np : ∀ b, V'.2.2.ownBlock = some b → V.2.2.ownBlock = some b ∨ w1.heap.size ≤ b) :
    Inv0 w w2 sb L pb V0 s0 V' s' Fp := by
  have hsz := h.fr.size
  refine ⟨m, ?_, ?_, ?_, ?_, h.fr.trans' hF ?_⟩
  · obtain ⟨a1, a2, a3, a4, a5⟩ := c
    obtain ⟨b1, b2, b3, b4, b5⟩ := h.cst
    exact ⟨a1.trans b1, a2.trans b2, a3.trans b3, a4.trans b4, a5.trans b5⟩
  · intro b hb
    rcases nf b hb with h' | h'
    · exact h.nf b h'
    · exact .inr (by omega)
  · intro b hb
    rcases ng b hb with h' | h'
    · exact h.ng b h'
    · exact .inr (by omega)
  · intro b hb
    rcases np b hb with h' | h'
    · exact h.np b h'
    · exact .inr (by omega)
  · intro b hb hx
    rcases hx with hx | hx | hx | hx | hx
    · exact .inl hx
    · exact .inr (.inl hx)
    · rcases h.nf b hx with h' | h'
      · exact .inr (.inr (.inl h'))
      · omega
    · rcases h.ng b hx with h' | h'
      · exact .inr (.inr (.inr (.inl h')))
      · omega
    · rcases h.np b hx with h' | h'
      · exact .inr (.inr (.inr (.inr h')))
      · omega

theorem Inv0.start {w : World} {sb : Nat} {L : HL} {pb : Nat} {V0 : Value × Value × Value} {s0 : RSt} {Fp : Nat → Prop} (m : SRm w.heap sb L pb V0.1 V0.2.1 V0.2.2 s0 Fp) : Inv0 w w sb L pb V0 s0 V0 s0 Fp :=
  ⟨m, ⟨rfl, rfl, rfl, rfl, rfl⟩, fun b h => .inl h, fun b h => .inl h, fun b h => .inl h, Fram.refl _ _⟩

theorem Inv0.none {w w1 w2 : World} {sb : Nat} {L : HL} {pb : Nat} {V0 V : Value × Value × Value} {s0 s : RSt} {Fp : Nat → Prop} (h : Inv0 w w1 sb L pb V0 s0 V s Fp) (hF : Fram none' w1 w2) : Inv0 w w2 sb L pb V0 s0 V s Fp :=
  h.step (h.m.none hF) (hF.mono (fun _ _ h => h.elim)) ⟨rfl, rfl, rfl, rfl, rfl⟩ (fun b h => .inl h) (fun b h => .inl h) (fun b h => .inl h)

theorem Inv0.heap {w w1 w2 : World} {sb : Nat} {L : HL} {pb : Nat} {V0 V : Value × Value × Value} {s0 s : RSt} {Fp : Nat → Prop} (h : Inv0 w w1 sb L pb V0 s0 V s Fp) (hF : Fram L.foot w1 w2) {hp : List Nd} {sn : List (List Nd)} (hh : HpR w2.heap L hp sn) : Inv0 w w2 sb L pb V0 s0 V { s with hp := hp, sn := sn } Fp :=
  h.step (h.m.heap hF hh) (hF.mono (fun _ _ h => .inr (.inl h))) ⟨rfl, rfl, rfl, rfl, rfl⟩ (fun b h => .inl h) (fun b h => .inl h) (fun b h => .inl h)

/-- The goal at hand is to be run. -/
structure RunOK (s : RSt) (ms : Ms) : Prop where
  hp : s.hp = ms.hp
  pf : s.proof = ms.proof
  inf : s.inf = ms.inf
  tr : s.tried = ms.tried
  rel : RelK s.cls s.frs s.proof s.chs s.sn ms.K
  hok : HOK ms.hp
  a4 : A4 ms.hp
  pos : 0 < ms.hp.length
  gs : ∀ g ∈ ms.gs, g.1 < ms.hp.length ∧ g.2 ≤ ms.K.length
  pw : ms.gs.Pairwise (fun a b => b.2 ≤ a.2)
  kl : ms.K.length ≤ ms.proof.length
  pl : ms.proof.length ≤ ms.inf
  fl : s.frs.length ≤ 4 + 3 * ms.inf
  il : ms.inf ≤ 24
  chain : Chain s.frs s.cont ms.gs
  ps : ∀ q ∈ s.chs, q.pr < ms.proof.length
  kh : ∀ c ∈ ms.K, c.hp.length ≤ ms.hp.length
  ft : Fit s.frs ms.hp.length
  iF : ms.inf ≤ s.fuel
  it : ms.inf ≤ ms.tried

structure BackOK (s : RSt) (K : List Ch) : Prop where
  rel : RelK s.cls s.frs s.proof s.chs s.sn K
  kl : K.length ≤ 26
  pl : s.proof.length ≤ s.inf
  fl : s.frs.length ≤ 4 + 3 * s.inf
  il : s.inf ≤ 24
  iF : s.inf ≤ s.fuel
  it : s.inf ≤ s.tried

structure TryOK (s : RSt) (K : List Ch) (goal : Nat) (nx : Int) (next : List Gf) (bar : Nat) (id : UInt8) : Prop where
  rel : RelK s.cls s.frs s.proof s.chs s.sn K
  hok : HOK s.hp
  a4 : A4 s.hp
  gl : goal < s.hp.length
  gn : ∀ g ∈ next, g.1 < s.hp.length ∧ g.2 ≤ bar
  pw : next.Pairwise (fun a b => b.2 ≤ a.2)
  bk : bar ≤ K.length
  kb : K.length ≤ bar + 1
  bp : bar ≤ s.proof.length
  pl : s.proof.length ≤ s.inf
  fl : s.frs.length ≤ 4 + 3 * s.inf
  il : s.inf ≤ 24
  chain : Chain s.frs nx next
  ido : IdOK s.cls id
  kh : ∀ c ∈ K, c.hp.length ≤ s.hp.length
  ft : Fit s.frs s.hp.length
  iF : s.inf ≤ s.fuel
  it : s.inf ≤ s.tried

end Go.Proofs.Qxb6500569aGreat
