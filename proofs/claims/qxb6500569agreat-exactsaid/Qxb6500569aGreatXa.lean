import Derived.Test.Qxb6500569aGreatVn
import Derived.Test.Qxb6500569aGreatTa
import Derived.Test.Qxb6500569aGreatSf
/- The real machine in memory. -/
namespace Go.Proofs.Qxb6500569aGreat
set_option linter.unusedVariables false
set_option linter.unusedSimpArgs false

/-- A frame: the goal, the frame behind it, the choices that stay at a cut. -/
abbrev Frm := Nat × Int × Nat
def frc (f : Frm) : List Value := [i64c f.1, .int .i64 f.2.1, i64c f.2.2]

/-- A choice: the call, the frame behind it, the candidates left, the frames, the proof's length. -/
structure Cho where
  goal : Nat
  next : Int
  alts : List UInt8
  fr : Nat
  pr : Nat
def chc (c : Cho) : List Value := [i64c c.goal, .int .i64 c.next, S c.alts, i64c c.fr, i64c c.pr]

structure RSt where
  cls : List Cl2
  opn : Bool
  q : List UInt8
  fuel : Nat
  given : Nat
  inf : Nat
  tried : Nat
  cont : Int
  frs : List Frm
  chs : List Cho
  proof : List UInt8
  hp : List Nd
  sn : List (List Nd)

theorem frcs_len (l : List Frm) : (l.flatMap frc).length = l.length * 3 := by
  induction l with
  | nil => rfl
  | cons a l ih => simp [frc, ih]; omega
theorem chcs_len (l : List Cho) : (l.flatMap chc).length = l.length * 5 := by
  induction l with
  | nil => rfl
  | cons a l ih => simp [chc, ih]; omega

/-- The goals of a continuation. -/
def Chain (frs : List Frm) : Int → List Gf → Prop
  | c, [] => c = -1
  | c, g :: gs => ∃ (k : Nat) (nx : Int), c = (k : Int) ∧ frs[k]? = some (g.1, nx, g.2) ∧ nx < (k : Int) ∧ Chain frs nx gs

theorem Chain.lt {frs : List Frm} {c : Int} {gs : List Gf} (h : Chain frs c gs) : -1 ≤ c ∧ c < (frs.length : Int) ∨ c = -1 := by
  cases gs with
  | nil => exact .inr h
  | cons g gs =>
    obtain ⟨k, nx, h1, h2, _⟩ := h
    have := (List.getElem?_eq_some_iff.1 h2).1
    exact .inl (by omega)

theorem Chain.app {frs x : List Frm} : ∀ {c : Int} {gs : List Gf}, Chain frs c gs → Chain (frs ++ x) c gs
  | c, [], h => h
  | c, g :: gs, h => by
    obtain ⟨k, nx, h1, h2, h3, h4⟩ := h
    refine ⟨k, nx, h1, ?_, h3, h4.app⟩
    rw [List.getElem?_append_left (List.getElem?_eq_some_iff.1 h2).1]; exact h2

theorem Chain.take {frs : List Frm} {m : Nat} : ∀ {c : Int} {gs : List Gf}, Chain frs c gs → c < (m : Int) → Chain (frs.take m) c gs
  | c, [], h, _ => h
  | c, g :: gs, h, hc => by
    obtain ⟨k, nx, h1, h2, h3, h4⟩ := h
    refine ⟨k, nx, h1, ?_, h3, h4.take (by omega)⟩
    rw [List.getElem?_take_of_lt (by omega)]; exact h2

theorem Chain.of_take {frs : List Frm} {m : Nat} : ∀ {c : Int} {gs : List Gf}, Chain (frs.take m) c gs → Chain frs c gs
  | c, [], h => h
  | c, g :: gs, h => by
    obtain ⟨k, nx, h1, h2, h3, h4⟩ := h
    refine ⟨k, nx, h1, ?_, h3, h4.of_take⟩
    rw [List.getElem?_take] at h2
    split at h2
    · exact h2
    · cases h2

/-- The heap with its snapshots. -/
def HpR (H : Array Obj) (L : HL) (hp : List Nd) (sn : List (List Nd)) : Prop := ∃ R, HeapAt H L R ∧ WF R ∧ R.abs = hp ∧ R.snaps = sn

theorem HpR.fram {F : Nat → Prop} {w w' : World} {L : HL} {hp : List Nd} {sn : List (List Nd)} (h : HpR w.heap L hp sn) (hf : Fram F w w') (hn : ∀ b, L.foot b → ¬ F b) : HpR w'.heap L hp sn := by
  obtain ⟨R, h1, h2⟩ := h; exact ⟨R, h1.fram hf hn, h2⟩

theorem HpR.lt {H : Array Obj} {L : HL} {hp : List Nd} {sn : List (List Nd)} (h : HpR H L hp sn) {b : Nat} (hb : L.foot b) : b < H.size := by
  obtain ⟨R, h1, h2⟩ := h; exact h1.lt hb

theorem HpR.cap {H : Array Obj} {L : HL} {hp : List Nd} {sn : List (List Nd)} (h : HpR H L hp sn) : hp.length ≤ 64 := by
  obtain ⟨R, h1, h2, h3, h4⟩ := h; rw [← h3, abs_length]; exact h2.core.size

theorem hHead {w : World} {L : HL} {hp : List Nd} {sn : List (List Nd)} (h : HpR w.heap L hp sn) {a : Nat} (ha : a < hp.length) : Ret Tryz.prog 71 [ptr L.h, i64c a] w (fun v w' => v = S (hd hp a) ∧ w' = w) := by
  obtain ⟨R, h1, h2, rfl, h4⟩ := h
  exact Head71 h1 h2.core (by rwa [abs_length] at ha)

theorem hHeadO {w : World} {L : HL} {hp : List Nd} {sn : List (List Nd)} (h : HpR w.heap L hp sn) (o : Option Nat) (ho : ∀ k, o = some k → k < hp.length) : Ret Tryz.prog 71 [ptr L.h, optc o] w (fun v w' => v = S (hdO hp o) ∧ w' = w) := by
  cases o with
  | none => obtain ⟨R, h1, h2, rfl, h4⟩ := h; exact Head71n h1
  | some k => exact hHead h (ho k rfl)

theorem hArg {w : World} {L : HL} {hp : List Nd} {sn : List (List Nd)} (h : HpR w.heap L hp sn) {a : Nat} (ha : a < hp.length) (i : Nat) (hi : i < 1000) : Ret Tryz.prog 57 [ptr L.h, i64c a, i64c i] w (fun v w' => v = optc (argOf hp a i) ∧ w' = w) := by
  obtain ⟨R, h1, h2, rfl, h4⟩ := h
  exact Arg57 h1 h2.core (by rwa [abs_length] at ha) i hi

theorem snaps_len (R : RH) : R.snaps.length = R.marks.length := by simp [RH.snaps]

theorem hPush {w : World} {L : HL} {hp : List Nd} {sn : List (List Nd)} (h : HpR w.heap L hp sn) (hm : sn.length < 26) : Ret Tryz.prog 75 [ptr L.h] w (fun r w' => HpR w'.heap L hp (sn ++ [hp]) ∧ Fram L.foot w w') := by
  obtain ⟨R, h1, h2, rfl, rfl⟩ := h
  rw [snaps_len] at hm
  obtain ⟨a1, a2, a3⟩ := wf_push h2 hm
  exact (Push75 h1 h2 hm).mono (by rintro _ w' ⟨_, h5, h6⟩; exact ⟨⟨_, h5, a1, a2, a3⟩, h6⟩)

theorem hCut {w : World} {L : HL} {hp : List Nd} {sn : List (List Nd)} (h : HpR w.heap L hp sn) {k : Nat} (hk : k ≤ sn.length) : Ret Tryz.prog 73 [ptr L.h, i64c k] w (fun r w' => HpR w'.heap L hp (sn.take k) ∧ Fram L.foot w w') := by
  obtain ⟨R, h1, h2, rfl, rfl⟩ := h
  rw [snaps_len] at hk
  obtain ⟨a1, a2, a3⟩ := wf_cut h2 k
  exact (Cut73 h1 h2 hk).mono (by rintro _ w' ⟨_, h5, h6⟩; exact ⟨⟨_, h5, a1, a2, a3⟩, h6⟩)

theorem hUndo {w : World} {L : HL} {hp h0 : List Nd} {sn : List (List Nd)} (h : HpR w.heap L hp (sn ++ [h0])) : Ret Tryz.prog 80 [ptr L.h] w (fun r w' => HpR w'.heap L h0 (sn ++ [h0]) ∧ Fram L.foot w w') := by
  obtain ⟨R, h1, h2, rfl, h4⟩ := h
  obtain ⟨m, hm⟩ : ∃ m, R.marks.getLast? = some m := by
    cases hx : R.marks.getLast? with
    | some m => exact ⟨m, rfl⟩
    | none =>
      rw [List.getLast?_eq_none_iff] at hx
      simp [RH.snaps, hx] at h4
  obtain ⟨a1, a2, a3⟩ := wf_undo h2 hm
  rw [h4] at a2 a3
  simp at a3
  exact (Undo80 h1 h2 hm).mono (by rintro _ w' ⟨_, h5, h6⟩; exact ⟨⟨_, h5, a1, a3.symm, a2⟩, h6⟩)

theorem hLoad {w : World} {L : HL} {hp : List Nd} {sn : List (List Nd)} (h : HpR w.heap L hp sn) {code : List UInt8} {ns : List Nd} (hl : Lays code hp.length ns) (hc : code.length ≤ 48) :
    Ret Tryz.prog 31 [ptr L.h, S code] w (fun r w' => if hp.length + ns.length > 64 then r = .tuple #[.int .i64 (-1), i64c 6] ∧ w' = w else r = .tuple #[i64c hp.length, i64c 0] ∧ HpR w'.heap L (hp ++ ns) sn ∧ Fram L.foot w w') := by
  obtain ⟨R, h1, h2, rfl, rfl⟩ := h
  rw [abs_length] at hl
  refine (Load31 h1 h2 hl hc).mono ?_
  intro r w' hr
  unfold LoadPost at hr
  rw [abs_length]
  split
  · rename_i hx
    rw [if_pos hx] at hr; exact hr
  · rename_i hx
    rw [if_neg hx] at hr
    obtain ⟨e, R', ⟨p1, p2⟩, p3, p4, p5, p6⟩ := hr
    exact ⟨e, ⟨R', p1, p3, p4, p5⟩, p2⟩

theorem hUnify {w : World} {L : HL} {hp : List Nd} {sn : List (List Nd)} (h : HpR w.heap L hp sn) {a b : Nat} (ha : a < hp.length) (hb : b < hp.length) :
    Ret Tryz.prog 78 [ptr L.h, i64c a, i64c b] w (fun r w' => Fram L.foot w w' ∧ if (uniS [(a, b)] hp 0).2.1 = 0 then r = .tuple #[i64c (uniS [(a, b)] hp 0).1, i64c 0] ∧ HpR w'.heap L (uniS [(a, b)] hp 0).2.2 sn else r = .tuple #[i64c 0, i64c (uniS [(a, b)] hp 0).2.1] ∧ HpR w'.heap L hp sn) := by
  obtain ⟨R, h1, h2, rfl, rfl⟩ := h
  rw [abs_length] at ha hb
  refine (Unify78 h1 h2 ha hb).mono ?_
  rintro r w' ⟨R', ⟨p1, p2⟩, p3, p4, p5, p6⟩
  refine ⟨p2, ?_⟩
  split
  · rename_i hx
    rw [if_pos hx] at p6
    exact ⟨p6.1, R', p1, p3, p6.2, p4⟩
  · rename_i hx
    rw [if_neg hx] at p6
    exact ⟨p6.1, R', p1, p3, p6.2, p4⟩

theorem hWrite {w : World} {L : HL} {hp : List Nd} {sn : List (List Nd)} (h : HpR w.heap L hp sn) {a : Nat} (ha : a < hp.length) : Ret Tryz.prog 42 [ptr L.h, i64c a] w (fun r w' => r = wrV hp a ∧ Fram none' w w') := by
  obtain ⟨R, h1, h2, rfl, h4⟩ := h
  exact Write42 h1 h2.core (by rwa [abs_length] at ha)

theorem hReset {w : World} {L : HL} {hp : List Nd} {sn : List (List Nd)} (h : HpR w.heap L hp sn) : Ret Tryz.prog 30 [ptr L.h] w (fun r w' => HpR w'.heap L [] [] ∧ Fram L.foot w w') := by
  obtain ⟨R, h1, h2, h3, h4⟩ := h
  exact (Reset30 h1).mono (by rintro _ w' ⟨h5, h6⟩; exact ⟨⟨_, h5, wf_empty, rfl, rfl⟩, h6⟩)

/-- The machine in memory. -/
structure SRm (H : Array Obj) (sb : Nat) (L : HL) (pb : Nat) (VF VG VP : Value) (s : RSt) (Fp : Nat → Prop) : Prop where
  blk : Blk H sb [ptr L.h, ptr pb, .bool s.opn, S s.q, i64c s.fuel, i64c s.given, i64c s.inf, i64c s.tried, .int .i64 s.cont, VF, VG, VP] 82
  fro : Own H VF 117 3 s.frs.length (s.frs.flatMap frc)
  cho : Own H VG 100 5 s.chs.length (s.chs.flatMap chc)
  pro : Own H VP 5 1 s.proof.length (s.proof.map u8c)
  hpr : HpR H L s.hp s.sn
  pr : PrX H pb s.cls Fp
  dl : ∀ b, L.foot b → b ≠ sb ∧ VF.ownBlock ≠ some b ∧ VG.ownBlock ≠ some b ∧ VP.ownBlock ≠ some b
  dp : ∀ b, Fp b → ¬ L.foot b ∧ b ≠ sb ∧ VF.ownBlock ≠ some b ∧ VG.ownBlock ≠ some b ∧ VP.ownBlock ≠ some b
  lp : ∀ b, Fp b → b < H.size

/-- What the machine's own work may turn. -/
def SFt (sb : Nat) (L : HL) (VF VG VP : Value) : Nat → Prop := fun b => b = sb ∨ L.foot b ∨ VF.ownBlock = some b ∨ VG.ownBlock = some b ∨ VP.ownBlock = some b

theorem SRm.none {w w' : World} {sb pb : Nat} {L : HL} {VF VG VP : Value} {s : RSt} {Fp : Nat → Prop} (h : SRm w.heap sb L pb VF VG VP s Fp) (hf : Fram none' w w') : SRm w'.heap sb L pb VF VG VP s Fp := by
  obtain ⟨VC, clbs, ra, la, lo, lk, hp⟩ := h.pr
  exact ⟨h.blk.fram hf (fun h => h), h.fro.fram hf (fun _ _ h => h), h.cho.fram hf (fun _ _ h => h), h.pro.fram hf (fun _ _ h => h), h.hpr.fram hf (fun _ _ h => h), ⟨VC, clbs, ra, la, lo, lk, hp.fram hf (fun _ _ h => h)⟩, h.dl, h.dp, fun b hb => Nat.lt_of_lt_of_le (h.lp b hb) hf.size⟩

theorem PrX.fram {G F : Nat → Prop} {w w' : World} {pb : Nat} {cls : List Cl2} (h : PrX w.heap pb cls F) (hf : Fram G w w') (hn : ∀ b, F b → ¬ G b) : PrX w'.heap pb cls F := by
  obtain ⟨VC, clbs, ra, la, lo, lk, hp⟩ := h
  exact ⟨VC, clbs, ra, la, lo, lk, hp.fram hf hn⟩

/-- The heap has turned. -/
theorem SRm.heap {w w' : World} {sb pb : Nat} {L : HL} {VF VG VP : Value} {s : RSt} {Fp : Nat → Prop} (h : SRm w.heap sb L pb VF VG VP s Fp) (hf : Fram L.foot w w') {hp : List Nd} {sn : List (List Nd)} (hh : HpR w'.heap L hp sn) : SRm w'.heap sb L pb VF VG VP { s with hp := hp, sn := sn } Fp :=
  ⟨h.blk.fram hf (fun hx => (h.dl _ hx).1 rfl), h.fro.fram hf (fun b hb hx => (h.dl b hx).2.1 hb), h.cho.fram hf (fun b hb hx => (h.dl b hx).2.2.1 hb), h.pro.fram hf (fun b hb hx => (h.dl b hx).2.2.2 hb), hh, h.pr.fram hf (fun b hb => (h.dp b hb).1), h.dl, h.dp, fun b hb => Nat.lt_of_lt_of_le (h.lp b hb) hf.size⟩

/-- A plain field has turned. -/
theorem SRm.up {w : World} {sb pb : Nat} {L : HL} {VF VG VP : Value} {s : RSt} {Fp : Nat → Prop} (h : SRm w.heap sb L pb VF VG VP s Fp) (s' : RSt) (e1 : s'.cls = s.cls) (e2 : s'.frs = s.frs) (e3 : s'.chs = s.chs) (e4 : s'.proof = s.proof) (e5 : s'.hp = s.hp) (e6 : s'.sn = s.sn) :
    SRm (w.setRow sb [ptr L.h, ptr pb, .bool s'.opn, S s'.q, i64c s'.fuel, i64c s'.given, i64c s'.inf, i64c s'.tried, .int .i64 s'.cont, VF, VG, VP].toArray).heap sb L pb VF VG VP s' Fp ∧ Fram (fun b => b = sb) w (w.setRow sb [ptr L.h, ptr pb, .bool s'.opn, S s'.q, i64c s'.fuel, i64c s'.given, i64c s'.inf, i64c s'.tried, .int .i64 s'.cont, VF, VG, VP].toArray) := by
  have FS : Fram (fun b => b = sb) w (w.setRow sb [ptr L.h, ptr pb, .bool s'.opn, S s'.q, i64c s'.fuel, i64c s'.given, i64c s'.inf, i64c s'.tried, .int .i64 s'.cont, VF, VG, VP].toArray) := Fram.set w sb _ (.inl rfl)
  refine ⟨⟨h.blk.set _, ?_, ?_, ?_, ?_, ?_, h.dl, h.dp, fun b hb => Nat.lt_of_lt_of_le (h.lp b hb) FS.size⟩, FS⟩
  · rw [e2]; exact h.fro.fram FS (fun b hb he => h.fro.neblk h.blk (by decide) b hb he)
  · rw [e3]; exact h.cho.fram FS (fun b hb he => h.cho.neblk h.blk (by decide) b hb he)
  · rw [e4]; exact h.pro.fram FS (fun b hb he => h.pro.neblk h.blk (by decide) b hb he)
  · rw [e5, e6]; exact h.hpr.fram FS (fun b hb he => (h.dl b hb).1 he)
  · rw [e1]; exact h.pr.fram FS (fun b hb he => (h.dp b hb).2.1 he)

end Go.Proofs.Qxb6500569aGreat
