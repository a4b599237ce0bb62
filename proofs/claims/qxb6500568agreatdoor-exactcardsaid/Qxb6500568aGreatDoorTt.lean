import Derived.Test.Qxb6500568aGreatDoorTs
/- The world: its own blocks, and one thing gone on. -/
namespace Go.Proofs.Qxb6500568aGreatDoor
open Ieee
set_option linter.unusedVariables false
set_option linter.unusedSimpArgs false
set_option linter.unusedSectionVars false

/-- an image and its text. -/
abbrev imc (x : Str × Str) : List Value := [S x.1, S x.2]
theorem imc_len (x : Str × Str) : (imc x).length = 2 := rfl
theorem imc_cells (x : Str × Str) : ∀ u ∈ imc x, u.oneCell' = true := by
  intro u hu
  simp only [imc, List.mem_cons, List.not_mem_nil, or_false] at hu
  rcases hu with rfl | rfl <;> rfl
def ImOK (x : Str × Str) : Prop := ∃ t k, prsV x.2 = .inr (t, k) ∧ x.1 = img (progF t (k + 1))
theorem own_tyD {H : Array Obj} {v : Value} {e k n : Nat} {xs : List Value} (h : Own H v e k n xs) {g : Nat} (hg : v.ownBlock = some g) : ∃ l, Blk H g l e := by
  rcases h.2 with ⟨rfl, -⟩ | ⟨b, cap, l, rfl, hB, -⟩
  · cases hg
  · have e : b = g := by simpa [Value.ownBlock] using hg
    subst e
    exact ⟨l, hB⟩
theorem own_dj {H : Array Obj} {v v' : Value} {e k n e' k' n' : Nat} {xs xs' : List Value} (h : Own H v e k n xs) (h' : Own H v' e' k' n' xs') (he : e ≠ e') {g : Nat} (hg : v.ownBlock = some g) (hg' : v'.ownBlock = some g) : False := by
  obtain ⟨l, hl⟩ := own_tyD h hg
  obtain ⟨l', hl'⟩ := own_tyD h' hg'
  exact he (hl.uniq hl').2
section
variable {w0 w w' w1 w2 : World} {n0 id : Nat} {W W' : Nat → Nat} {Lx Lm Ld : List Nat} {Li : List (Str × Str)} {G O O' : Nat → Prop} {Vx Vm Vd Vi V' : Value} {wb c cb mc db i : Nat} {y : Str × Str} {s : Str} {fuel : Int}
/-- the world's own blocks. -/
structure WO (n0 : Nat) (w : World) (W : Nat → Nat) (wb : Nat) (Vx Vm Vd Vi : Value) (Lx Lm Ld : List Nat) (Li : List (Str × Str)) : Prop where
  hB : Blk w.heap wb [Vx, Vm, Vd, Vi] 68
  ox : Own w.heap Vx 22 1 Lx.length (Lx.map ptr)
  om : Own w.heap Vm 24 1 Lm.length (Lm.map ptr)
  od : Own w.heap Vd 29 1 Ld.length (Ld.map ptr)
  oi : Own w.heap Vi 139 2 Li.length (rws imc Li)
  zb : W wb = 0 ∧ n0 ≤ wb
  zx : ∀ b, Vx.ownBlock = some b → W b = 0 ∧ n0 ≤ b
  zm : ∀ b, Vm.ownBlock = some b → W b = 0 ∧ n0 ≤ b
  zd : ∀ b, Vd.ownBlock = some b → W b = 0 ∧ n0 ≤ b
  zi : ∀ b, Vi.ownBlock = some b → W b = 0 ∧ n0 ≤ b
theorem WO.far (h : WO n0 w W wb Vx Vm Vd Vi Lx Lm Ld Li) (f : Fram G w w') (hn : ∀ b, b < w.heap.size → W b = 0 → ¬ G b) (hE : ∀ b, b < w.heap.size → W' b = W b) : WO n0 w' W' wb Vx Vm Vd Vi Lx Lm Ld Li :=
  ⟨h.hB.fram f (hn _ h.hB.lt h.zb.1), h.ox.fram f (fun b q => hn b (h.ox.lt q) (h.zx b q).1), h.om.fram f (fun b q => hn b (h.om.lt q) (h.zm b q).1), h.od.fram f (fun b q => hn b (h.od.lt q) (h.zd b q).1), h.oi.fram f (fun b q => hn b (h.oi.lt q) (h.zi b q).1),
    by rw [hE _ h.hB.lt]; exact h.zb, fun b q => by rw [hE b (h.ox.lt q)]; exact h.zx b q, fun b q => by rw [hE b (h.om.lt q)]; exact h.zm b q, fun b q => by rw [hE b (h.od.lt q)]; exact h.zd b q, fun b q => by rw [hE b (h.oi.lt q)]; exact h.zi b q⟩
theorem WO.appX (h : WO n0 w W wb Vx Vm Vd Vi Lx Lm Ld Li) (h0 : n0 ≤ w.heap.size) (o : Own w1.heap V' 22 1 (Lx.length + 1) (Lx.map ptr ++ [ptr c])) (g : Fram (own1 Vx) w w1) (nb : nob Vx V' w) (f : Fram (one wb) w1 w2) (hB : Blk w2.heap wb [V', Vm, Vd, Vi] 68) :
    WO n0 w2 (owU W w 0) wb V' Vm Vd Vi (Lx ++ [c]) Lm Ld Li ∧ Fram (fun b => b = wb ∨ Vx.ownBlock = some b) w w2 := by
  have z1 := g.size
  have z2 := f.size
  have hwb := h.hB.lt
  have FF : Fram (fun b => b = wb ∨ Vx.ownBlock = some b) w w2 := (g.mono (fun b _ q => .inr q)).trans (f.mono (fun b _ q => .inl q))
  have kw : ∀ b, V'.ownBlock = some b → b ≠ wb := fun b q => by
    rcases nb b q with z | z
    · exact h.ox.neblk h.hB (by decide) b z
    · omega
  refine ⟨⟨hB, ?_, ?_, ?_, ?_, ?_, ?_, ?_, ?_, ?_⟩, FF⟩
  · rw [List.map_append, List.length_append]
    exact o.fram f (fun b q z => kw b q z)
  · exact h.om.fram FF (fun b q z => by
      rcases z with z | z
      · exact h.om.neblk h.hB (by decide) b q z
      · exact own_dj h.om h.ox (by decide) q z)
  · exact h.od.fram FF (fun b q z => by
      rcases z with z | z
      · exact h.od.neblk h.hB (by decide) b q z
      · exact own_dj h.od h.ox (by decide) q z)
  · exact h.oi.fram FF (fun b q z => by
      rcases z with z | z
      · exact h.oi.neblk h.hB (by decide) b q z
      · exact own_dj h.oi h.ox (by decide) q z)
  · rw [owU_lt hwb]; exact h.zb
  · intro b q
    rcases nb b q with z | z
    · rw [owU_lt (h.ox.lt z)]; exact h.zx b z
    · exact ⟨owU_ge z, by omega⟩
  · intro b q
    rw [owU_lt (h.om.lt q)]; exact h.zm b q
  · intro b q
    rw [owU_lt (h.od.lt q)]; exact h.zd b q
  · intro b q
    rw [owU_lt (h.oi.lt q)]; exact h.zi b q
theorem WO.appM (h : WO n0 w W wb Vx Vm Vd Vi Lx Lm Ld Li) (h0 : n0 ≤ w.heap.size) (o : Own w1.heap V' 24 1 (Lm.length + 1) (Lm.map ptr ++ [ptr c])) (g : Fram (own1 Vm) w w1) (nb : nob Vm V' w) (f : Fram (one wb) w1 w2) (hB : Blk w2.heap wb [Vx, V', Vd, Vi] 68) :
    WO n0 w2 (owU W w 0) wb Vx V' Vd Vi Lx (Lm ++ [c]) Ld Li ∧ Fram (fun b => b = wb ∨ Vm.ownBlock = some b) w w2 := by
  have z1 := g.size
  have z2 := f.size
  have hwb := h.hB.lt
  have FF : Fram (fun b => b = wb ∨ Vm.ownBlock = some b) w w2 := (g.mono (fun b _ q => .inr q)).trans (f.mono (fun b _ q => .inl q))
  have kw : ∀ b, V'.ownBlock = some b → b ≠ wb := fun b q => by
    rcases nb b q with z | z
    · exact h.om.neblk h.hB (by decide) b z
    · omega
  refine ⟨⟨hB, ?_, ?_, ?_, ?_, ?_, ?_, ?_, ?_, ?_⟩, FF⟩
  · exact h.ox.fram FF (fun b q z => by
      rcases z with z | z
      · exact h.ox.neblk h.hB (by decide) b q z
      · exact own_dj h.ox h.om (by decide) q z)
  · rw [List.map_append, List.length_append]
    exact o.fram f (fun b q z => kw b q z)
  · exact h.od.fram FF (fun b q z => by
      rcases z with z | z
      · exact h.od.neblk h.hB (by decide) b q z
      · exact own_dj h.od h.om (by decide) q z)
  · exact h.oi.fram FF (fun b q z => by
      rcases z with z | z
      · exact h.oi.neblk h.hB (by decide) b q z
      · exact own_dj h.oi h.om (by decide) q z)
  · rw [owU_lt hwb]; exact h.zb
  · intro b q
    rw [owU_lt (h.ox.lt q)]; exact h.zx b q
  · intro b q
    rcases nb b q with z | z
    · rw [owU_lt (h.om.lt z)]; exact h.zm b z
    · exact ⟨owU_ge z, by omega⟩
  · intro b q
    rw [owU_lt (h.od.lt q)]; exact h.zd b q
  · intro b q
    rw [owU_lt (h.oi.lt q)]; exact h.zi b q
theorem WO.appD (h : WO n0 w W wb Vx Vm Vd Vi Lx Lm Ld Li) (h0 : n0 ≤ w.heap.size) (o : Own w1.heap V' 29 1 (Ld.length + 1) (Ld.map ptr ++ [ptr c])) (g : Fram (own1 Vd) w w1) (nb : nob Vd V' w) (f : Fram (one wb) w1 w2) (hB : Blk w2.heap wb [Vx, Vm, V', Vi] 68) :
    WO n0 w2 (owU W w 0) wb Vx Vm V' Vi Lx Lm (Ld ++ [c]) Li ∧ Fram (fun b => b = wb ∨ Vd.ownBlock = some b) w w2 := by
  have z1 := g.size
  have z2 := f.size
  have hwb := h.hB.lt
  have FF : Fram (fun b => b = wb ∨ Vd.ownBlock = some b) w w2 := (g.mono (fun b _ q => .inr q)).trans (f.mono (fun b _ q => .inl q))
  have kw : ∀ b, V'.ownBlock = some b → b ≠ wb := fun b q => by
    rcases nb b q with z | z
    · exact h.od.neblk h.hB (by decide) b z
    · omega
  refine ⟨⟨hB, ?_, ?_, ?_, ?_, ?_, ?_, ?_, ?_, ?_⟩, FF⟩
  · exact h.ox.fram FF (fun b q z => by
      rcases z with z | z
      · exact h.ox.neblk h.hB (by decide) b q z
      · exact own_dj h.ox h.od (by decide) q z)
  · exact h.om.fram FF (fun b q z => by
      rcases z with z | z
      · exact h.om.neblk h.hB (by decide) b q z
      · exact own_dj h.om h.od (by decide) q z)
  · rw [List.map_append, List.length_append]
    exact o.fram f (fun b q z => kw b q z)
  · exact h.oi.fram FF (fun b q z => by
      rcases z with z | z
      · exact h.oi.neblk h.hB (by decide) b q z
      · exact own_dj h.oi h.od (by decide) q z)
  · rw [owU_lt hwb]; exact h.zb
  · intro b q
    rw [owU_lt (h.ox.lt q)]; exact h.zx b q
  · intro b q
    rw [owU_lt (h.om.lt q)]; exact h.zm b q
  · intro b q
    rcases nb b q with z | z
    · rw [owU_lt (h.od.lt z)]; exact h.zd b z
    · exact ⟨owU_ge z, by omega⟩
  · intro b q
    rw [owU_lt (h.oi.lt q)]; exact h.zi b q
theorem WO.appI (h : WO n0 w W wb Vx Vm Vd Vi Lx Lm Ld Li) (h0 : n0 ≤ w.heap.size) (o : Own w1.heap V' 139 2 (Li.length + 1) (rws imc Li ++ imc y)) (g : Fram (own1 Vi) w w1) (nb : nob Vi V' w) (f : Fram (one wb) w1 w2) (hB : Blk w2.heap wb [Vx, Vm, Vd, V'] 68) :
    WO n0 w2 (owU W w 0) wb Vx Vm Vd V' Lx Lm Ld (Li ++ [y]) ∧ Fram (fun b => b = wb ∨ Vi.ownBlock = some b) w w2 := by
  have z1 := g.size
  have z2 := f.size
  have hwb := h.hB.lt
  have FF : Fram (fun b => b = wb ∨ Vi.ownBlock = some b) w w2 := (g.mono (fun b _ q => .inr q)).trans (f.mono (fun b _ q => .inl q))
  have kw : ∀ b, V'.ownBlock = some b → b ≠ wb := fun b q => by
    rcases nb b q with z | z
    · exact h.oi.neblk h.hB (by decide) b z
    · omega
  refine ⟨⟨hB, ?_, ?_, ?_, ?_, ?_, ?_, ?_, ?_, ?_⟩, FF⟩
  · exact h.ox.fram FF (fun b q z => by
      rcases z with z | z
      · exact h.ox.neblk h.hB (by decide) b q z
      · exact own_dj h.ox h.oi (by decide) q z)
  · exact h.om.fram FF (fun b q z => by
      rcases z with z | z
      · exact h.om.neblk h.hB (by decide) b q z
      · exact own_dj h.om h.oi (by decide) q z)
  · exact h.od.fram FF (fun b q z => by
      rcases z with z | z
      · exact h.od.neblk h.hB (by decide) b q z
      · exact own_dj h.od h.oi (by decide) q z)
  · rw [rws_app, rws_one, List.length_append]
    exact o.fram f (fun b q z => kw b q z)
  · rw [owU_lt hwb]; exact h.zb
  · intro b q
    rw [owU_lt (h.ox.lt q)]; exact h.zx b q
  · intro b q
    rw [owU_lt (h.om.lt q)]; exact h.zm b q
  · intro b q
    rw [owU_lt (h.od.lt q)]; exact h.zd b q
  · intro b q
    rcases nb b q with z | z
    · rw [owU_lt (h.oi.lt z)]; exact h.zi b z
    · exact ⟨owU_ge z, by omega⟩
/-- the world of a script. -/
structure WS (w0 w : World) (W : Nat → Nat) (wb : Nat) (Vx Vm Vd Vi : Value) (Lx Lm Ld : List Nat) (Li : List (Str × Str)) : Prop where
  e : WEn w0.heap.size w W Lx Lm Ld
  o : WO w0.heap.size w W wb Vx Vm Vd Vi Lx Lm Ld Li
  f : Fram none' w0 w
  lm : Lm.length = Lx.length
  im : ∀ x ∈ Li, ImOK x
  gv : GV w0 (o9n w0.heap.size)
theorem WS.g (h : WS w0 w W wb Vx Vm Vd Vi Lx Lm Ld Li) : GV w (o9n w0.heap.size) := h.gv.farN h.f
theorem WS.far0 (h : WS w0 w W wb Vx Vm Vd Vi Lx Lm Ld Li) (f : Fram none' w w') : WS w0 w' (owU W w 0) wb Vx Vm Vd Vi Lx Lm Ld Li :=
  ⟨h.e.far f (fun _ _ _ q => q) (fun b hb => owU_lt hb), h.o.far f (fun _ _ _ q => q) (fun b hb => owU_lt hb), h.f.trans f, h.lm, h.im, h.gv⟩
theorem WS.farN (h : WS w0 w W wb Vx Vm Vd Vi Lx Lm Ld Li) (f : Fram none' w w') : WS w0 w' W wb Vx Vm Vd Vi Lx Lm Ld Li :=
  ⟨h.e.far f (fun _ _ _ q => q) (fun b hb => rfl), h.o.far f (fun _ _ _ q => q) (fun b hb => rfl), h.f.trans f, h.lm, h.im, h.gv⟩
theorem WS.go (h : WS w0 w W wb Vx Vm Vd Vi Lx Lm Ld Li) (hi : id ≠ 0) (f : Fram (fun b => W b = id) w w') (hE : ENm w0.heap.size Lx Lm Ld id w' (fun b => W b = id ∨ w.heap.size ≤ b)) : WS w0 w' (owU W w id) wb Vx Vm Vd Vi Lx Lm Ld Li :=
  ⟨h.e.go hi f hE, h.o.far f (fun b _ q z => hi (z.symm.trans q)) (fun b hb => owU_lt hb), h.f.trans' f (fun b hb q => hi (q.symm.trans (h.e.lw b hb))), h.lm, h.im, h.gv⟩
/-- a call that changes things, but no block of the world's own. -/
def WP5 (w0 w : World) (W : Nat → Nat) (wb : Nat) (Vx Vm Vd Vi : Value) (Lx Lm Ld : List Nat) (Li : List (Str × Str)) (w' : World) : Prop := Fram (fun b => W b ≠ 0) w w' ∧ ∃ W', WS w0 w' W' wb Vx Vm Vd Vi Lx Lm Ld Li ∧ ∀ b, b < w.heap.size → W' b = W b
theorem WP5.thenN (h : WP5 w0 w W wb Vx Vm Vd Vi Lx Lm Ld Li w1) (f : Fram none' w1 w2) : WP5 w0 w W wb Vx Vm Vd Vi Lx Lm Ld Li w2 := by
  obtain ⟨h1, W', h2, h3⟩ := h
  exact ⟨h1.trans' f (fun _ _ q => q.elim), W', h2.farN f, h3⟩
theorem ENm.x {n0 i : Nat} (hc : Lx[i]? = some cb) (h : TEn n0 cb w O) : ENm n0 Lx Lm Ld (3 * i + 1) w O :=
  ⟨fun j c e q => by obtain rfl : i = j := by omega
                     rw [hc] at q; cases q; exact h, fun j c e q => by omega, fun j c e q => by omega⟩
theorem ENm.m {n0 i : Nat} (hc : Lm[i]? = some mc) (h : MEn mc w O) : ENm n0 Lx Lm Ld (3 * i + 2) w O :=
  ⟨fun j c e q => by omega, fun j c e q => by obtain rfl : i = j := by omega
                                              rw [hc] at q; cases q; exact h, fun j c e q => by omega⟩
theorem ENm.d {n0 i : Nat} (hc : Ld[i]? = some db) (h : DEn db w O) : ENm n0 Lx Lm Ld (3 * i + 3) w O :=
  ⟨fun j c e q => by omega, fun j c e q => by omega, fun j c e q => by obtain rfl : i = j := by omega
                                                                       rw [hc] at q; cases q; exact h⟩
theorem WS.x (h : WS w0 w W wb Vx Vm Vd Vi Lx Lm Ld Li) (hc : Lx[i]? = some cb) : TEn w0.heap.size cb w (fun b => W b = 3 * i + 1) := (h.e.en (3 * i + 1) (by omega)).1 i cb rfl hc
theorem WS.m (h : WS w0 w W wb Vx Vm Vd Vi Lx Lm Ld Li) (hc : Lm[i]? = some mc) : MEn mc w (fun b => W b = 3 * i + 2) := (h.e.en (3 * i + 2) (by omega)).2.1 i mc rfl hc
theorem WS.d (h : WS w0 w W wb Vx Vm Vd Vi Lx Lm Ld Li) (hc : Ld[i]? = some db) : DEn db w (fun b => W b = 3 * i + 3) := (h.e.en (3 * i + 3) (by omega)).2.2 i db rfl hc
theorem WS.ran (h : WS w0 w W wb Vx Vm Vd Vi Lx Lm Ld Li) (hx : Lx[i]? = some cb) (hm : Lm[i]? = some mc) (hfu : fuel < 9223372036854775808) :
    Ret Tryz.prog 7 [ptr cb, ptr mc, S s, icv fuel] w (fun r w' => r = .bool true ∧ WP5 w0 w W wb Vx Vm Vd Vi Lx Lm Ld Li w') := by
  refine (ran7c (Q := WP5 w0 w W wb Vx Vm Vd Vi Lx Lm Ld Li) (((h.x hx).run (s := s) h.e.n0 h.g hfu).mono ?_)).mono ?_
  · rintro r u1 ⟨hr, f1, h1⟩
    have h2 := h.go (by omega) f1 (ENm.x hx h1)
    refine ⟨hr, fun v fv => ?_⟩
    have h3 := h2.farN fv
    have z1 := f1.size
    have zv := fv.size
    refine ((h3.m hm).run (s := s) hfu).mono ?_
    rintro r w' ⟨hr, f2, h4⟩
    have h5 := h3.go (by omega) f2 (ENm.m hm h4)
    refine ⟨hr, f2.mono (fun b _ q => ?_), ((f1.mono (fun b _ q => by rw [q]; omega)).trans' fv (fun _ _ q => q.elim)).trans' f2 (fun b hb q => ?_), _, h5, fun b hb => ?_⟩
    · refine Nat.lt_of_not_le fun z => ?_
      have q : owU W w (3 * i + 1) b = 3 * i + 2 := q
      rw [owU_ge (by omega)] at q
      omega
    · have q : owU W w (3 * i + 1) b = 3 * i + 2 := q
      rw [owU_lt hb] at q
      rw [q]; omega
    · rw [owU_lt (by omega), owU_lt hb]
  · rintro r w' ⟨rfl, u, hu, f⟩
    exact ⟨rfl, hu.thenN f⟩
theorem WS.imaged (h : WS w0 w W wb Vx Vm Vd Vi Lx Lm Ld Li) (hx : Lx[i]? = some cb) :
    Ret Tryz.prog 8 [ptr cb, S s] w (fun r w' => ((∃ e p, prsV s = .inl (e, p) ∧ r = .tuple #[S [], .bool false, .bool true]) ∨ ∃ t k, prsV s = .inr (t, k) ∧ r = .tuple #[S (img (progF t (k + 1))), .bool true, .bool true]) ∧ WP5 w0 w W wb Vx Vm Vd Vi Lx Lm Ld Li w') := by
  refine (imaged8c (Q := WP5 w0 w W wb Vx Vm Vd Vi Lx Lm Ld Li) (((h.x hx).img (s := s) h.e.n0 h.g).mono ?_)).mono ?_
  · rintro r u1 ⟨hr, f1, h1⟩
    exact ⟨hr, f1.mono (fun b _ q => by rw [q]; omega), _, h.go (by omega) f1 (ENm.x hx h1), fun b hb => owU_lt hb⟩
  · rintro r w' ⟨hr, u, hu, f⟩
    exact ⟨hr, hu.thenN f⟩
theorem WS.exec (h : WS w0 w W wb Vx Vm Vd Vi Lx Lm Ld Li) (hd : Ld[i]? = some db) (hy : y ∈ Li) (hfu : fuel < 9223372036854775808) :
    Ret Tryz.prog 10 [ptr db, S y.1, S y.2, icv fuel] w (fun r w' => r = .bool true ∧ WP5 w0 w W wb Vx Vm Vd Vi Lx Lm Ld Li w') := by
  obtain ⟨t, k, hp, he⟩ := h.im y hy
  rw [he]
  refine (executed10c (s := y.2) (Q := WP5 w0 w W wb Vx Vm Vd Vi Lx Lm Ld Li) hfu (((h.d hd).run hp hfu).mono ?_)).mono ?_
  · rintro r u1 ⟨hr, f1, h1⟩
    exact ⟨hr, f1.mono (fun b _ q => by rw [q]; omega), _, h.go (by omega) f1 (ENm.d hd h1), fun b hb => owU_lt hb⟩
  · rintro r w' ⟨hr, u, hu, f⟩
    exact ⟨hr, hu.thenN f⟩
/-- the world of a script, its size. -/
def WI (w0 w : World) (wb N : Nat) : Prop := ∃ W Vx Vm Vd Vi Lx Lm Ld Li, WS w0 w W wb Vx Vm Vd Vi Lx Lm Ld Li ∧ Lx.length + Ld.length + Li.length ≤ N
theorem WI.fr {wb N : Nat} (h : WI w0 w wb N) : Fram none' w0 w := by
  obtain ⟨W, Vx, Vm, Vd, Vi, Lx, Lm, Ld, Li, h, _⟩ := h
  exact h.f
end
end Go.Proofs.Qxb6500568aGreatDoor
