import Derived.Test.Qxb6500569aGreatUc
/- The real reader: read. -/
namespace Go.Proofs.Qxb6500569aGreat
set_option linter.unusedVariables false
set_option linter.unusedSimpArgs false

/-- A node under the reader's hands: all its blocks are new since w. -/
structure KS (w w' : World) (D cb : Nat) (c : UInt8) (VA : Value) (ks : List (Value × TI)) (B : List Nat) : Prop where
  cal : CallB (TAt D w'.heap) w'.heap cb c VA ks B
  fr : ∀ b ∈ B, w.heap.size ≤ b
  dis : ∀ k ∈ ks, ∀ b ∈ k.2.B, b ≠ cb ∧ VA.ownBlock ≠ some b

theorem KS.keep {w w1 w2 : World} {D cb : Nat} {c : UInt8} {VA : Value} {ks : List (Value × TI)} {B : List Nat} {F : Nat → Prop} (h : KS w w1 D cb c VA ks B) (hf : Fram F w1 w2) (hF : ∀ b, w.heap.size ≤ b → ¬ F b) : KS w w2 D cb c VA ks B :=
  ⟨h.cal.fram hf (fun b hb => hF b (h.fr b hb)) (fun k hk hb h => h.fram hf hb), h.fr, h.dis⟩

theorem KS.cbf {w w1 : World} {D cb : Nat} {c : UInt8} {VA : Value} {ks : List (Value × TI)} {B : List Nat} (h : KS w w1 D cb c VA ks B) : w.heap.size ≤ cb := h.fr cb (by rw [h.cal.bs]; simp)
theorem KS.vf {w w1 : World} {D cb : Nat} {c : UInt8} {VA : Value} {ks : List (Value × TI)} {B : List Nat} (h : KS w w1 D cb c VA ks B) : ∀ b, VA.ownBlock = some b → w.heap.size ≤ b := fun b hb => h.fr b (by rw [h.cal.bs]; simp [blkB_mem hb])
theorem KS.lt {w w1 : World} {D cb : Nat} {c : UInt8} {VA : Value} {ks : List (Value × TI)} {B : List Nat} (h : KS w w1 D cb c VA ks B) : ∀ b ∈ B, b < w1.heap.size := h.cal.lt (fun v i h => h.lt)

theorem TAt.cells {d : Nat} {H : Array Obj} {v : Value} {i : TI} (h : TAt d H v i) : v.cells = [v].toArray ∧ v.oneCell' = true := by
  cases d with
  | zero => exact h.elim
  | succ d => rcases h with ⟨c, n, hh, _⟩ | ⟨hh, _⟩ | ⟨cb', c, VA', ks', hh, _⟩ <;> rw [hh] <;> exact ⟨rfl, rfl⟩

theorem KS.push {w w7 w9 : World} {D cb lo : Nat} {c : UInt8} {aV : Option Addr} {cV : Nat} {ks : List (Value × TI)} {B : List Nat} (h : KS w w7 D cb c (.slice aV ks.length cV) ks B) {tv : Value} {i : TI} (hT : TAt D w7.heap tv i) (hlo : ∀ b ∈ B, b < lo) (hiB : ∀ b ∈ i.B, lo ≤ b) (hwl : w.heap.size ≤ lo)
    {a9 : Option Addr} {cap9 : Nat} (hown : Own w9.heap (.slice a9 (ks.length + 1) cap9) 195 1 (ks.length + 1) (ks.map (·.1) ++ [tv])) (hgr : (w7.alloc (.cells [tv].toArray 195)).grownBy w9 (Value.slice aV ks.length cV).ownBlock)
    (hloc : (Value.slice a9 (ks.length + 1) cap9).ownBlock = (Value.slice aV ks.length cV).ownBlock ∨ (Value.slice a9 (ks.length + 1) cap9).ownBlock = some (w7.alloc (.cells [tv].toArray 195)).heap.size) :
    Blk w9.heap cb [u8c c, .slice aV ks.length cV] 193 ∧ KS w (w9.setRow cb [u8c c, .slice a9 (ks.length + 1) cap9].toArray) D cb c (.slice a9 (ks.length + 1) cap9) (ks ++ [(tv, i)]) (cb :: (blkB (.slice a9 (ks.length + 1) cap9) ++ (ks ++ [(tv, i)]).flatMap (·.2.B))) ∧
      Fram (fun b => w.heap.size ≤ b) w7 (w9.setRow cb [u8c c, .slice a9 (ks.length + 1) cap9].toArray) := by
  have hO8 := h.cal.own.alloc (.cells [tv].toArray 195)
  have hB8 := h.cal.blk.alloc (.cells [tv].toArray 195)
  have FA : Fram (fun b => (Value.slice aV ks.length cV).ownBlock = some b) (w7.alloc (.cells [tv].toArray 195)) w9 := Fram.grown hgr (fun k hk => .inl hk)
  have hB9 : Blk w9.heap cb [u8c c, .slice aV ks.length cV] 193 := hB8.fram FA (fun hk => hO8.neblk hB8 (by decide) _ hk rfl)
  have FS : Fram (fun b => b = cb) w9 (w9.setRow cb [u8c c, .slice a9 (ks.length + 1) cap9].toArray) := Fram.set w9 cb _ (.inl rfl)
  have hB10 := hB9.set [u8c c, .slice a9 (ks.length + 1) cap9]
  have hO10 := hown.fram FS (fun b hb' he => hown.neblk hB9 (by decide) b hb' he)
  have FF : Fram (fun b => b = cb ∨ (Value.slice aV ks.length cV).ownBlock = some b) w7 (w9.setRow cb [u8c c, .slice a9 (ks.length + 1) cap9].toArray) := ((Fram.alloc _ w7 (.cells [tv].toArray 195)).trans (FA.mono (fun k hk hx => .inr hx))).trans (FS.mono (fun k hk hx => .inl hx))
  have hcb6 := hlo cb (by rw [h.cal.bs]; simp)
  have hV6 : ∀ b, (Value.slice aV ks.length cV).ownBlock = some b → b < lo := fun b hb => hlo b (by rw [h.cal.bs]; simp [blkB_mem hb])
  have hkb : ∀ k ∈ ks, ∀ b ∈ k.2.B, b ∈ B := fun k hk b hb => by rw [h.cal.bs]; simp only [List.mem_cons, List.mem_append, List.mem_flatMap]; exact .inr (.inr ⟨k, hk, hb⟩)
  have hKa : ∀ k ∈ ks ++ [(tv, i)], TAt D (w9.setRow cb [u8c c, .slice a9 (ks.length + 1) cap9].toArray).heap k.1 k.2 := by
    refine kids_keep (d := D) (w := w7) ?_ FF ?_ (Nat.le_refl _)
    · intro k hk
      rcases List.mem_append.1 hk with h' | h'
      · exact h.cal.kids k h'
      · rw [List.mem_singleton.1 h']; exact hT
    · intro k hk b hb hx
      rcases List.mem_append.1 hk with h' | h'
      · have := h.dis k h' b hb
        rcases hx with hx | hx
        · exact this.1 hx
        · exact this.2 hx
      · rw [List.mem_singleton.1 h'] at hb
        have := hiB b hb
        rcases hx with hx | hx
        · omega
        · have := hV6 b hx; omega
  have hnew : ∀ b, (Value.slice a9 (ks.length + 1) cap9).ownBlock = some b → (Value.slice aV ks.length cV).ownBlock = some b ∨ w7.heap.size ≤ b := by
    intro b hb'
    rcases hloc with h | h
    · rw [h] at hb'; exact .inl hb'
    · rw [h] at hb'; cases hb'; exact .inr (by simp)
  have hcbf := h.cbf
  have hcl := h.cal.blk.lt
  have hkf := h.vf
  refine ⟨hB9, ⟨⟨hB10, by simpa using hO10, hKa, rfl⟩, ?_, ?_⟩, FF.mono (fun k hk hx => by
    rcases hx with hx | hx
    · omega
    · exact hkf k hx)⟩
  · intro b hb
    simp only [List.mem_cons, List.mem_append, List.mem_flatMap] at hb
    rcases hb with hb | hb | ⟨k, hk, hb⟩
    · omega
    · unfold blkB at hb
      split at hb
      · rename_i b' hb'
        simp at hb; subst hb
        rcases hnew _ hb' with h' | h'
        · exact hkf _ h'
        · omega
      · cases hb
    · rcases hk with hk | hk
      · exact h.fr b (hkb k hk b hb)
      · simp at hk; subst hk; have := hiB b hb; omega
  · intro k hk b hb
    rcases List.mem_append.1 hk with h' | h'
    · have h1' := h.dis k h' b hb
      refine ⟨h1'.1, fun hx => ?_⟩
      rcases hnew b hx with hx | hx
      · exact h1'.2 hx
      · have := h.lt b (hkb k h' b hb); omega
    · rw [List.mem_singleton.1 h'] at hb
      have h2' := hiB b hb
      refine ⟨by omega, fun hx => ?_⟩
      rcases hnew b hx with hx | hx
      · have := hV6 b hx; omega
      · have := hT.lt b hb; omega

/-- The reading of a whole text, before the counts are judged. -/
def readS (text : List UInt8) (query : Bool) : Option (Nat × List UInt8 × Nat) :=
  if query then (PG text []).bind (fun r => if r.rest = [] then some (r.n, r.code, r.vs.length) else none)
  else (Px 1 text []).bind (fun h => if h.rest = [] then some (1, h.code, h.vs.length)
    else if pk h.rest = 58 ∧ pk h.rest.tail = 45 then (PG h.rest.tail.tail h.vs).bind (fun r => if r.rest = [] then some (r.n + 1, h.code ++ r.code, r.vs.length) else none) else none)

def rootF (query : Bool) : UInt8 := if query then 63 else 58

/-- The text of a clause's or a query's parts. -/
def textR (query : Bool) (ks : List TI) : List UInt8 := if query then joinT ks else match ks with
  | [] => []
  | h :: gs => h.text ++ (if gs = [] then [] else [58, 45] ++ joinT gs)

def ReadPost (rb mb : Nat) (s : List UInt8) (query : Bool) (w : World) (v : Value) (w' : World) : Prop :=
  ∃ clb rtb VA ks B, v = ptr clb ∧ Blk w'.heap clb [ptr rtb] 174 ∧ w.heap.size ≤ clb ∧ KS w w' (s.length + 1) rtb (rootF query) VA ks B ∧ readS s query = some (ks.length, ks.flatMap (·.2.code), maxM (ks.map (·.2))) ∧ textR query (ks.map (·.2)) = s ∧ (query = false → ∃ cb i ks', ks = ((Value.iface 155 (ptr cb), i) : Value × TI) :: ks') ∧ ks.length ≤ s.length + 1 ∧ Fram (RF rb mb) w w'

end Go.Proofs.Qxb6500569aGreat
