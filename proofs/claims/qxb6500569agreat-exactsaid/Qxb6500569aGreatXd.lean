import Derived.Test.Qxb6500569aGreatXc
/- Steps of the real machine. -/
namespace Go.Proofs.Qxb6500569aGreat
set_option linter.unusedVariables false
set_option linter.unusedSimpArgs false

theorem jmp_mono {c : Code} {J J' : Nat → Act → World → Prop} {Q : Exit → Act → World → Prop} (h : ∀ l a w, J l a w → J' l a w) (e : Exit) (a : Act) (w : World) (hj : jmp c J Q e a w) : jmp c J' Q e a w := by
  cases e with
  | goto l =>
    simp only [jmp] at hj ⊢
    split at hj
    · exact h _ _ _ hj
    · exact hj
  | _ => exact hj

theorem c_scopeP {P : Program} {c : Code} {Q : Exit → Act → World → Prop} {a : Act} {w : World} (J : Nat → Nat → Act → World → Prop)
    (form : ∀ l m a w, J l m a w → ∃ r, findLabel c l = some (.seq .skip r))
    (first : (∀ l m a w, J l m a w → ∀ rest, findLabel c l = some (.seq .skip rest) → WC P rest (jmp c (fun l a' w' => ∃ m', J l m' a' w') Q) a w) → WC P c (jmp c (fun l a w => ∃ m, J l m a w) Q) a w)
    (pass : ∀ m, (∀ m', m' < m → ∀ l a w, J l m' a w → ∀ rest, findLabel c l = some (.seq .skip rest) → WC P rest (jmp c (fun l a' w' => ∃ m'', m'' < m ∧ J l m'' a' w') Q) a w) → ∀ l a w, J l m a w → ∀ rest, findLabel c l = some (.seq .skip rest) → WC P rest (jmp c (fun l a' w' => ∃ m', m' < m ∧ J l m' a' w') Q) a w) :
    WC P (Code.scope c) Q a w := by
  have key : ∀ m, ∀ l a w, J l m a w → ∀ rest, findLabel c l = some (.seq .skip rest) → WC P rest (jmp c (fun l a' w' => ∃ m', m' < m ∧ J l m' a' w') Q) a w := by
    intro m
    induction m using Nat.strongRecOn with
    | _ m ih =>
      exact pass m (fun m' hm l a w hj rest hr => wc_mono (ih m' hm l a w hj rest hr) (jmp_mono (fun l a w ⟨m'', h1, h2⟩ => ⟨m'', by omega, h2⟩)))
  refine c_scope J (first (fun l m a w hj rest hr => wc_mono (key m l a w hj rest hr) (jmp_mono (fun l a w ⟨m'', h1, h2⟩ => ⟨m'', h2⟩)))) (fun l m a w hj rest hr => ?_)
  obtain ⟨r, hr'⟩ := form l m a w hj
  rw [hr] at hr'
  obtain rfl := Option.some.inj hr'
  exact c_mid (fun a' w' => a' = a ∧ w' = w) (c_skip (x_then ⟨rfl, rfl⟩)) (by rintro a' w' ⟨rfl, rfl⟩; exact key m l _ _ hj r hr)

theorem c_fall {P : Program} {l : Nat} {rest : Code} {Q : Exit → Act → World → Prop} {a : Act} {w : World} (h : WC P rest Q a w) : WC P (Code.seq (Code.label l) rest) Q a w :=
  c_mid (fun a' w' => a' = a ∧ w' = w) (c_label (x_then ⟨rfl, rfl⟩)) (by rintro a' w' ⟨rfl, rfl⟩; exact h)

/-- A step of the machine. -/
structure Stp (w w' : World) (sb : Nat) (L : HL) (pb : Nat) (V : Value × Value × Value) (V' : Value × Value × Value) (s' : RSt) (Fp : Nat → Prop) : Prop where
  m : SRm w'.heap sb L pb V'.1 V'.2.1 V'.2.2 s' Fp
  fr : Fram (SFt sb L V.1 V.2.1 V.2.2) w w'
  nf : ∀ b, V'.1.ownBlock = some b → V.1.ownBlock = some b ∨ w.heap.size ≤ b
  ng : ∀ b, V'.2.1.ownBlock = some b → V.2.1.ownBlock = some b ∨ w.heap.size ≤ b
  np : ∀ b, V'.2.2.ownBlock = some b → V.2.2.ownBlock = some b ∨ w.heap.size ≤ b

theorem SRm.turn {w w' : World} {sb : Nat} {L : HL} {pb : Nat} {V V' : Value × Value × Value} {s s' : RSt} {Fp : Nat → Prop} (M : SRm w.heap sb L pb V.1 V.2.1 V.2.2 s Fp) {G : Nat → Prop} (hF : Fram G w w')
    (hG : ∀ b, b < w.heap.size → G b → b = sb ∨ V.1.ownBlock = some b ∨ V.2.1.ownBlock = some b ∨ V.2.2.ownBlock = some b)
    (blk : Blk w'.heap sb [ptr L.h, ptr pb, .bool s'.opn, S s'.q, i64c s'.fuel, i64c s'.given, i64c s'.inf, i64c s'.tried, .int .i64 s'.cont, V'.1, V'.2.1, V'.2.2] 82)
    (fro : Own w'.heap V'.1 117 3 s'.frs.length (s'.frs.flatMap frc)) (cho : Own w'.heap V'.2.1 100 5 s'.chs.length (s'.chs.flatMap chc)) (pro : Own w'.heap V'.2.2 5 1 s'.proof.length (s'.proof.map u8c))
    (nf : ∀ b, V'.1.ownBlock = some b → V.1.ownBlock = some b ∨ w.heap.size ≤ b) (ng : ∀ b, V'.2.1.ownBlock = some b → V.2.1.ownBlock = some b ∨ w.heap.size ≤ b) (np : ∀ b, V'.2.2.ownBlock = some b → V.2.2.ownBlock = some b ∨ w.heap.size ≤ b)
    (e1 : s'.cls = s.cls) (e2 : s'.hp = s.hp) (e3 : s'.sn = s.sn) : Stp w w' sb L pb V V' s' Fp := by
  refine ⟨⟨blk, fro, cho, pro, ?_, ?_, ?_, ?_, fun b hb => Nat.lt_of_lt_of_le (M.lp b hb) hF.size⟩, hF.mono ?_, nf, ng, np⟩
  · rw [e2, e3]
    refine M.hpr.fram hF (fun b hb hx => ?_)
    rcases hG b (M.hpr.lt hb) hx with h | h | h | h
    · exact (M.dl b hb).1 h
    · exact (M.dl b hb).2.1 h
    · exact (M.dl b hb).2.2.1 h
    · exact (M.dl b hb).2.2.2 h
  · rw [e1]
    refine M.pr.fram hF (fun b hb hx => ?_)
    rcases hG b (M.lp b hb) hx with h | h | h | h
    · exact (M.dp b hb).2.1 h
    · exact (M.dp b hb).2.2.1 h
    · exact (M.dp b hb).2.2.2.1 h
    · exact (M.dp b hb).2.2.2.2 h
  · intro b hb
    have hlt := M.hpr.lt hb
    refine ⟨(M.dl b hb).1, fun h => ?_, fun h => ?_, fun h => ?_⟩
    · rcases nf b h with h | h
      · exact (M.dl b hb).2.1 h
      · omega
    · rcases ng b h with h | h
      · exact (M.dl b hb).2.2.1 h
      · omega
    · rcases np b h with h | h
      · exact (M.dl b hb).2.2.2 h
      · omega
  · intro b hb
    have hlt := M.lp b hb
    refine ⟨(M.dp b hb).1, (M.dp b hb).2.1, fun h => ?_, fun h => ?_, fun h => ?_⟩
    · rcases nf b h with h | h
      · exact (M.dp b hb).2.2.1 h
      · omega
    · rcases ng b h with h | h
      · exact (M.dp b hb).2.2.2.1 h
      · omega
    · rcases np b h with h | h
      · exact (M.dp b hb).2.2.2.2 h
      · omega
  · intro b hb hx
    rcases hG b hb hx with h | h | h | h
    · exact .inl h
    · exact .inr (.inr (.inl h))
    · exact .inr (.inr (.inr (.inl h)))
    · exact .inr (.inr (.inr (.inr h)))

theorem SRm.upS {w : World} {sb pb : Nat} {L : HL} {V : Value × Value × Value} {s : RSt} {Fp : Nat → Prop} (h : SRm w.heap sb L pb V.1 V.2.1 V.2.2 s Fp) (s' : RSt) (e1 : s'.cls = s.cls) (e2 : s'.frs = s.frs) (e3 : s'.chs = s.chs) (e4 : s'.proof = s.proof) (e5 : s'.hp = s.hp) (e6 : s'.sn = s.sn) :
    Stp w (w.setRow sb [ptr L.h, ptr pb, .bool s'.opn, S s'.q, i64c s'.fuel, i64c s'.given, i64c s'.inf, i64c s'.tried, .int .i64 s'.cont, V.1, V.2.1, V.2.2].toArray) sb L pb V V s' Fp := by
  obtain ⟨M, F⟩ := h.up s' e1 e2 e3 e4 e5 e6
  exact ⟨M, F.mono (fun _ _ h => .inl h), fun b h => .inl h, fun b h => .inl h, fun b h => .inl h⟩

theorem Inv0.go {w w1 w2 : World} {sb : Nat} {L : HL} {pb : Nat} {V0 V V' : Value × Value × Value} {s0 s s' : RSt} {Fp : Nat → Prop} (h : Inv0 w w1 sb L pb V0 s0 V s Fp) (t : Stp w1 w2 sb L pb V V' s' Fp)
    (c : s'.cls = s.cls ∧ s'.opn = s.opn ∧ s'.q = s.q ∧ s'.fuel = s.fuel ∧ s'.given = s.given) : Inv0 w w2 sb L pb V0 s0 V' s' Fp := h.step t.m t.fr c t.nf t.ng t.np

theorem Inv0.drew {w w1 : World} {sb : Nat} {L : HL} {pb : Nat} {V0 V : Value × Value × Value} {s0 s : RSt} {Fp : Nat → Prop} (h : Inv0 w w1 sb L pb V0 s0 V s Fp) (d : Nat) : Inv0 w { w1 with drawn := d } sb L pb V0 s0 V s Fp :=
  h.none (Fram.drew none' w1 d)

theorem Stp.hp {w w' : World} {sb : Nat} {L : HL} {pb : Nat} {V : Value × Value × Value} {s : RSt} {Fp : Nat → Prop} (M : SRm w.heap sb L pb V.1 V.2.1 V.2.2 s Fp) (hF : Fram L.foot w w') {hp : List Nd} {sn : List (List Nd)} (hh : HpR w'.heap L hp sn) : Stp w w' sb L pb V V { s with hp := hp, sn := sn } Fp :=
  ⟨M.heap hF hh, hF.mono (fun _ _ h => .inr (.inl h)), fun b h => .inl h, fun b h => .inl h, fun b h => .inl h⟩

theorem flat_get {α : Type} {f : α → List Value} {c : Nat} (hc : ∀ a, (f a).length = c) : ∀ {l : List α} {k j : Nat} {a : α}, j < c → l[k]? = some a → (l.flatMap f)[k * c + j]? = (f a)[j]?
  | [], k, j, a, _, h => by simp at h
  | x :: l, 0, j, a, hj, h => by
    simp at h
    subst h
    rw [List.flatMap_cons, Nat.zero_mul, Nat.zero_add, List.getElem?_append_left (by rw [hc]; exact hj)]
  | x :: l, k + 1, j, a, hj, h => by
    have h' : l[k]? = some a := by simpa using h
    rw [List.flatMap_cons, List.getElem?_append_right (by rw [hc, Nat.succ_mul]; omega), hc, show (k + 1) * c + j - c = k * c + j by rw [Nat.succ_mul]; omega]
    exact flat_get hc hj h'

/-- The frame k. -/
theorem SRm.frame {H : Array Obj} {sb pb : Nat} {L : HL} {VF VG VP : Value} {s : RSt} {Fp : Nat → Prop} (M : SRm H sb L pb VF VG VP s Fp) {k : Nat} {f : Frm} (hk : s.frs[k]? = some f) :
    ∃ g c l, VF = .slice (some ⟨g, 0, Option.none⟩) s.frs.length c ∧ Blk H g l 117 ∧ l[k * 3 + 0]? = some (i64c f.1) ∧ l[k * 3 + 1]? = some (.int .i64 f.2.1) ∧ l[k * 3 + 2]? = some (i64c f.2.2) := by
  have hl := (List.getElem?_eq_some_iff.1 hk).1
  rcases M.fro.2 with ⟨_, h⟩ | ⟨g, cap, l, h1, h2, h3, h4, h5, h6⟩
  · omega
  · have hx : ∀ j, j < 3 → l[k * 3 + j]? = (frc f)[j]? := by
      intro j hj
      rw [← flat_get (f := frc) (c := 3) (fun a => rfl) hj hk, ← h6, List.getElem?_take_of_lt (by omega)]
    exact ⟨g, cap, l, h1, h2, hx 0 (by omega), hx 1 (by omega), hx 2 (by omega)⟩

/-- The top choice. -/
theorem SRm.top {H : Array Obj} {sb pb : Nat} {L : HL} {VF VG VP : Value} {s : RSt} {Fp : Nat → Prop} (M : SRm H sb L pb VF VG VP s Fp) {chs : List Cho} {q : Cho} (hk : s.chs = chs ++ [q]) :
    ∃ g c l, VG = .slice (some ⟨g, 0, Option.none⟩) (chs.length + 1) c ∧ chs.length + 1 ≤ c ∧ Blk H g l 100 ∧ (chs.length + 1) * 5 ≤ l.length ∧ l.take (chs.length * 5) = chs.flatMap chc ∧ l[chs.length * 5 + 0]? = some (i64c q.goal) ∧ l[chs.length * 5 + 1]? = some (.int .i64 q.next) ∧ l[chs.length * 5 + 2]? = some (S q.alts) ∧ l[chs.length * 5 + 3]? = some (i64c q.fr) ∧ l[chs.length * 5 + 4]? = some (i64c q.pr) := by
  have hk' : s.chs[chs.length]? = some q := by rw [hk]; simp
  have hl : s.chs.length = chs.length + 1 := by rw [hk]; simp
  rcases M.cho.2 with ⟨_, h⟩ | ⟨g, cap, l, h1, h2, h3, h4, h5, h6⟩
  · omega
  · have hx : ∀ j, j < 5 → l[chs.length * 5 + j]? = (chc q)[j]? := by
      intro j hj
      rw [← flat_get (f := chc) (c := 5) (fun a => rfl) hj hk', ← h6, List.getElem?_take_of_lt (by omega)]
    rw [hl] at h1 h3
    refine ⟨g, cap, l, h1, h3, h2, by omega, ?_, hx 0 (by omega), hx 1 (by omega), hx 2 (by omega), hx 3 (by omega), hx 4 (by omega)⟩
    have h7 := congrArg (List.take (chs.length * 5)) h6
    rw [List.take_take, Nat.min_eq_left (by omega), hk, List.flatMap_append, List.take_append_of_le_length (by rw [chcs_len]; omega)] at h7
    exact h7.trans (List.take_of_length_le (by rw [chcs_len]; omega))

theorem capOf {H : Array Obj} {a : Option Addr} {n m c e k : Nat} {xs : List Value} (h : Own H (.slice a n c) e k m xs) : n ≤ c := by
  rcases h.2 with ⟨h1, h2⟩ | ⟨g, cap, l, h1, h2, h3, _⟩
  · injection h1 with _ h1 h3; omega
  · injection h1 with _ h4 h1; omega

theorem mCut72 {w : World} {sb pb : Nat} {L : HL} {V : Value × Value × Value} {s : RSt} {Fp : Nat → Prop} (M : SRm w.heap sb L pb V.1 V.2.1 V.2.2 s Fp) {m : Nat} (hm : m ≤ s.chs.length) :
    Ret Tryz.prog 72 [ptrAt sb 10, i64c m] w (fun _ w' => ∃ VG', Stp w w' sb L pb V (V.1, VG', V.2.2) { s with chs := s.chs.take m } Fp) := by
  obtain ⟨a, c, hV⟩ := M.cho.form
  have M' := M
  have hB := M.blk
  have hO := M.cho
  rw [hV] at hB hO
  refine (Cut72 hB (k := 10) rfl (capOf hO) hm).mono ?_
  rintro _ w' hw'
  have FS : Fram (fun b => b = sb) w w' := by rw [hw']; exact Fram.set w sb _ (.inl rfl)
  have hB' := hB.set ([ptr L.h, ptr pb, Value.bool s.opn, S s.q, i64c s.fuel, i64c s.given, i64c s.inf, i64c s.tried, Value.int IntKind.i64 s.cont, V.1, .slice a s.chs.length c, V.2.2].set 10 (.slice a m c))
  rw [← hw'] at hB'
  refine ⟨.slice a m c, M.turn FS (fun b _ h => .inl h) hB' (M.fro.fram FS (fun b hb he => M.fro.neblk M.blk (by decide) b hb he)) ?_ (M.pro.fram FS (fun b hb he => M.pro.neblk M.blk (by decide) b hb he)) (fun b h => .inl h) (fun b h => .inl (by rw [hV, own_same (m := m)]; exact h)) (fun b h => .inl h) rfl rfl rfl⟩
  have := (hO.fram FS (fun b hb he => hO.neblk hB (by decide) b hb he)).cut hm
  show Own _ _ 100 5 (s.chs.take m).length ((s.chs.take m).flatMap chc)
  rw [List.length_take, Nat.min_eq_left hm]
  have e : (s.chs.take m).flatMap chc = (s.chs.flatMap chc).take (m * 5) := by
    conv => rhs; rw [← List.take_append_drop m s.chs, List.flatMap_append]
    rw [List.take_append_of_le_length (by rw [chcs_len, List.length_take]; omega)]
    exact (List.take_of_length_le (by rw [chcs_len, List.length_take]; omega)).symm
  rw [e]
  exact this

theorem mCut81 {w : World} {sb pb : Nat} {L : HL} {V : Value × Value × Value} {s : RSt} {Fp : Nat → Prop} (M : SRm w.heap sb L pb V.1 V.2.1 V.2.2 s Fp) {m : Nat} (hm : m ≤ s.frs.length) :
    Ret Tryz.prog 81 [ptrAt sb 9, i64c m] w (fun _ w' => ∃ VF', Stp w w' sb L pb V (VF', V.2.1, V.2.2) { s with frs := s.frs.take m } Fp) := by
  obtain ⟨a, c, hV⟩ := M.fro.form
  have hB := M.blk
  have hO := M.fro
  rw [hV] at hB hO
  refine (Cut81 hB (k := 9) rfl (capOf hO) hm).mono ?_
  rintro _ w' hw'
  have FS : Fram (fun b => b = sb) w w' := by rw [hw']; exact Fram.set w sb _ (.inl rfl)
  have hB' := hB.set ([ptr L.h, ptr pb, Value.bool s.opn, S s.q, i64c s.fuel, i64c s.given, i64c s.inf, i64c s.tried, Value.int IntKind.i64 s.cont, .slice a s.frs.length c, V.2.1, V.2.2].set 9 (.slice a m c))
  rw [← hw'] at hB'
  refine ⟨.slice a m c, M.turn FS (fun b _ h => .inl h) hB' ?_ (M.cho.fram FS (fun b hb he => M.cho.neblk M.blk (by decide) b hb he)) (M.pro.fram FS (fun b hb he => M.pro.neblk M.blk (by decide) b hb he)) (fun b h => .inl (by rw [hV, own_same (m := m)]; exact h)) (fun b h => .inl h) (fun b h => .inl h) rfl rfl rfl⟩
  have := (hO.fram FS (fun b hb he => hO.neblk hB (by decide) b hb he)).cut hm
  show Own _ _ 117 3 (s.frs.take m).length ((s.frs.take m).flatMap frc)
  rw [List.length_take, Nat.min_eq_left hm]
  have e : (s.frs.take m).flatMap frc = (s.frs.flatMap frc).take (m * 3) := by
    conv => rhs; rw [← List.take_append_drop m s.frs, List.flatMap_append]
    rw [List.take_append_of_le_length (by rw [frcs_len, List.length_take]; omega)]
    exact (List.take_of_length_le (by rw [frcs_len, List.length_take]; omega)).symm
  rw [e]
  exact this

theorem mPush76 {w : World} {sb pb : Nat} {L : HL} {V : Value × Value × Value} {s : RSt} {Fp : Nat → Prop} (M : SRm w.heap sb L pb V.1 V.2.1 V.2.2 s Fp) (q : Cho) (hm : s.chs.length ≤ 1000) :
    Ret Tryz.prog 76 [ptrAt sb 10, .agg [i64c q.goal, .int .i64 q.next, S q.alts, i64c q.fr, i64c q.pr].toArray] w (fun _ w' => ∃ VG', Stp w w' sb L pb V (V.1, VG', V.2.2) { s with chs := s.chs ++ [q] } Fp) := by
  refine (Push76 M.blk (k := 10) rfl M.cho (by decide) (by omega) _ _ _ _ _ (by simp [i64c, S, Value.oneCell'])).mono ?_
  rintro _ w' ⟨VG', hB', hO', hn', F'⟩
  have hT : TypF [82, 100] (fun b => b = sb ∨ V.2.1.ownBlock = some b) w.heap := by
    intro b hb l t hBl
    rcases hb with rfl | hb
    · have := M.blk.typ _ rfl _ _ hBl; simp at this; subst this; rfl
    · have := M.cho.typ b hb _ _ hBl; simp at this; subst this; rfl
  refine ⟨VG', M.turn F' (fun b _ h => by rcases h with h | h <;> simp [h]) hB' (M.fro.framT F' hT rfl) ?_ (M.pro.framT F' hT rfl) (fun b h => .inl h) hn' (fun b h => .inl h) rfl rfl rfl⟩
  show Own _ _ 100 5 (s.chs ++ [q]).length ((s.chs ++ [q]).flatMap chc)
  rw [List.length_append, List.flatMap_append]
  exact hO'

theorem mTop79 {w : World} {sb pb : Nat} {L : HL} {V : Value × Value × Value} {s : RSt} {Fp : Nat → Prop} (M : SRm w.heap sb L pb V.1 V.2.1 V.2.2 s Fp) {chs : List Cho} {q : Cho} (hk : s.chs = chs ++ [q]) (hn : chs.length ≤ 1000) {g c : Nat} (hV : V.2.1 = .slice (some ⟨g, 0, none⟩) (chs.length + 1) c) :
    Ret Tryz.prog 79 [ptrAt sb 10] w (fun r w' => r = ptrAt g (chs.length * 5) ∧ w' = w) := by
  have hB := M.blk
  rw [hV] at hB
  exact Top79 hB (k := 10) rfl (by omega)

theorem mTop79n {w : World} {sb pb : Nat} {L : HL} {V : Value × Value × Value} {s : RSt} {Fp : Nat → Prop} (M : SRm w.heap sb L pb V.1 V.2.1 V.2.2 s Fp) (hk : s.chs = []) :
    Ret Tryz.prog 79 [ptrAt sb 10] w (fun r w' => r = .pointer none ∧ w' = w) := by
  obtain ⟨a, c, hV⟩ := M.cho.form
  have hB := M.blk
  rw [hV, hk] at hB
  exact Top79n hB (k := 10) rfl

theorem mLen44 {w : World} {sb pb : Nat} {L : HL} {V : Value × Value × Value} {s : RSt} {Fp : Nat → Prop} (M : SRm w.heap sb L pb V.1 V.2.1 V.2.2 s Fp) :
    Ret Tryz.prog 44 [ptrAt sb 10] w (fun r w' => r = i64c s.chs.length ∧ w' = w) := by
  obtain ⟨a, c, hV⟩ := M.cho.form
  have hB := M.blk
  rw [hV] at hB
  exact Len44 hB (k := 10) rfl

theorem mLen59 {w : World} {sb pb : Nat} {L : HL} {V : Value × Value × Value} {s : RSt} {Fp : Nat → Prop} (M : SRm w.heap sb L pb V.1 V.2.1 V.2.2 s Fp) :
    Ret Tryz.prog 59 [ptrAt sb 9] w (fun r w' => r = i64c s.frs.length ∧ w' = w) := by
  obtain ⟨a, c, hV⟩ := M.fro.form
  have hB := M.blk
  rw [hV] at hB
  exact Len59 hB (k := 9) rfl

theorem mAt70 {w : World} {sb pb : Nat} {L : HL} {V : Value × Value × Value} {s : RSt} {Fp : Nat → Prop} (M : SRm w.heap sb L pb V.1 V.2.1 V.2.2 s Fp) {k g c : Nat} (hk : k < s.frs.length) (hV : V.1 = .slice (some ⟨g, 0, none⟩) s.frs.length c) :
    Ret Tryz.prog 70 [ptrAt sb 9, i64c k] w (fun r w' => r = ptrAt g (k * 3) ∧ w' = w) := by
  have hB := M.blk
  rw [hV] at hB
  exact At70 hB (k := 9) rfl hk

theorem mAt70n {w : World} {sb pb : Nat} {L : HL} {V : Value × Value × Value} {s : RSt} {Fp : Nat → Prop} (M : SRm w.heap sb L pb V.1 V.2.1 V.2.2 s Fp) :
    Ret Tryz.prog 70 [ptrAt sb 9, .int .i64 (-1)] w (fun r w' => r = .pointer none ∧ w' = w) := by
  obtain ⟨a, c, hV⟩ := M.fro.form
  have hB := M.blk
  rw [hV] at hB
  exact At70n hB (k := 9) rfl (by omega)

theorem mPop82 {w : World} {sb pb : Nat} {L : HL} {V : Value × Value × Value} {s : RSt} {Fp : Nat → Prop} (M : SRm w.heap sb L pb V.1 V.2.1 V.2.2 s Fp) {chs : List Cho} {q : Cho} (hk : s.chs = chs ++ [q]) (hn : chs.length ≤ 1000) :
    Ret Tryz.prog 82 [ptrAt sb 10] w (fun _ w' => ∃ VG', Stp w w' sb L pb V (V.1, VG', V.2.2) { s with chs := chs } Fp) := by
  obtain ⟨g, c, l, hV, hc, hG, hl, htk, h0, h1, h2, h3, h4⟩ := M.top hk
  have hB := M.blk
  have hO := M.cho
  rw [hV] at hB hO
  have hcell : (l.drop (chs.length * 5)).take 5 = chc q := by
    apply List.ext_getElem?
    intro i
    by_cases hi : i < 5
    · rw [List.getElem?_take_of_lt hi, List.getElem?_drop]
      rcases (by omega : i = 0 ∨ i = 1 ∨ i = 2 ∨ i = 3 ∨ i = 4) with rfl | rfl | rfl | rfl | rfl
      · exact h0
      · exact h1
      · exact h2
      · exact h3
      · exact h4
    · rw [List.getElem?_eq_none (by rw [List.length_take]; omega), List.getElem?_eq_none (by simp [chc]; omega)]
  refine (Pop82 hB (k := 10) rfl hc hG (by rw [hcell]; rfl) (by rw [hcell]; simp [chc, i64c, S, Value.oneCell']) (by omega)).mono ?_
  rintro _ w' ⟨hB', FS⟩
  refine ⟨.slice (some ⟨g, 0, none⟩) chs.length c, M.turn FS (fun b _ h => .inl h) hB' (M.fro.fram FS (fun b hb he => M.fro.neblk M.blk (by decide) b hb he)) ?_ (M.pro.fram FS (fun b hb he => M.pro.neblk M.blk (by decide) b hb he)) (fun b h => .inl h) (fun b h => .inl (by rw [hV]; exact h)) (fun b h => .inl h) rfl rfl rfl⟩
  rw [hk] at hO
  simp only [List.length_append, List.length_singleton] at hO
  have := (hO.fram FS (fun b hb he => hO.neblk hB (by decide) b hb he)).cut (m := chs.length) (by omega)
  show Own _ _ 100 5 chs.length (chs.flatMap chc)
  rw [List.flatMap_append, List.take_append_of_le_length (by rw [chcs_len]; omega), List.take_of_length_le (by rw [chcs_len]; omega)] at this
  exact this

/-- The candidates of the top choice have turned. -/
theorem SRm.alts {w : World} {sb pb : Nat} {L : HL} {V : Value × Value × Value} {s : RSt} {Fp : Nat → Prop} (M : SRm w.heap sb L pb V.1 V.2.1 V.2.2 s Fp) {chs : List Cho} {q : Cho} (hk : s.chs = chs ++ [q]) {g c : Nat} {l : List Value} (hV : V.2.1 = .slice (some ⟨g, 0, Option.none⟩) (chs.length + 1) c) (hG : Blk w.heap g l 100) (al : List UInt8) :
    Stp w (w.setRow g (l.set (chs.length * 5 + 2) (S al)).toArray) sb L pb V V { s with chs := chs ++ [{ q with alts := al }] } Fp := by
  have FS : Fram (fun b => b = g) w (w.setRow g (l.set (chs.length * 5 + 2) (S al)).toArray) := Fram.set w g _ (.inl rfl)
  have hl : s.chs.length = chs.length + 1 := by rw [hk]; simp
  have hO := M.cho
  have hgo : V.2.1.ownBlock = some g := by rw [hV]; rfl
  refine M.turn FS (fun b _ h => .inr (.inr (.inl (by rw [hgo, show b = g from h])))) (M.blk.fram FS (fun he => M.cho.neblk M.blk (by decide) g hgo he.symm)) (M.fro.fram FS (fun b hb he => M.fro.neblk hG (by decide) b hb he)) ?_ (M.pro.fram FS (fun b hb he => M.pro.neblk hG (by decide) b hb he)) (fun b h => .inl h) (fun b h => .inl h) (fun b h => .inl h) rfl rfl rfl
  refine ⟨by show ((chs ++ [{ q with alts := al }]).flatMap chc).length = _; rw [chcs_len], .inr ?_⟩
  rcases hO.2 with ⟨_, h⟩ | ⟨g', cap, l', h1, h2, h3, h4, h5, h6⟩
  · omega
  · rw [hV] at h1
    injection h1 with h1 h1' h1''
    injection h1 with h1
    injection h1 with h1
    subst h1 h1''
    obtain ⟨rfl, _⟩ := hG.uniq h2
    refine ⟨g, c, _, ?_, hG.set _, ?_, h4, by rw [List.length_set]; exact h5, ?_⟩
    · rw [hV]; simp
    · simp; omega
    · show (l.set (chs.length * 5 + 2) (S al)).take ((chs ++ [{ q with alts := al }]).length * 5) = (chs ++ [{ q with alts := al }]).flatMap chc
      rw [hk] at h6
      rw [show (chs ++ [({ q with alts := al } : Cho)]).length = (chs ++ [q]).length by simp, List.take_set, h6, List.flatMap_append, List.flatMap_append, List.set_append_right _ _ (by rw [chcs_len]; omega), chcs_len, show chs.length * 5 + 2 - chs.length * 5 = 2 by omega]
      rfl

theorem kidsK_mem {hp : List Nd} {root k cut : Nat} {g : Gf} (h : g ∈ kidsK hp root k cut) : g.2 = cut ∧ ∃ j, argOf hp root j = some g.1 := by
  unfold kidsK at h
  obtain ⟨a, ha, rfl⟩ := List.mem_map.1 h
  obtain ⟨j, _, hj⟩ := List.mem_filterMap.1 ha
  exact ⟨rfl, j, hj⟩

theorem kids_pw {hp : List Nd} {root k cut : Nat} {next : List Gf} (h1 : ∀ g ∈ next, g.2 ≤ cut) (h2 : next.Pairwise (fun a b => b.2 ≤ a.2)) : (kidsK hp root k cut ++ next).Pairwise (fun a b => b.2 ≤ a.2) := by
  rw [List.pairwise_append]
  refine ⟨?_, h2, fun a ha b hb => by rw [(kidsK_mem ha).1]; exact h1 b hb⟩
  have : ∀ l : List Gf, (∀ g ∈ l, g.2 = cut) → l.Pairwise (fun a b => b.2 ≤ a.2) := by
    intro l
    induction l with
    | nil => intro _; exact .nil
    | cons a l ih =>
      intro h
      refine .cons (fun b hb => ?_) (ih (fun g hg => h g (by simp [hg])))
      rw [h a (by simp), h b (by simp [hb])]
      exact Nat.le_refl _
  exact this _ (fun g hg => (kidsK_mem hg).1)

end Go.Proofs.Qxb6500569aGreat
