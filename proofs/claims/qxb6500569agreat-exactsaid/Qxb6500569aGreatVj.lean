import Derived.Test.Qxb6500569aGreatVi
/- The real program: the index is kept up (first part). -/
namespace Go.Proofs.Qxb6500569aGreat
set_option linter.unusedVariables false
set_option linter.unusedSimpArgs false

theorem BKS.map {α : Type} [DecidableEq α] {kv : α → Value} {w w' : World} {L : List (Value × List Nat)} {r : Nat} {l : List (α × Value)} (h : BKS w.heap L) (hm : MapAt kv w.heap r l) (hf : Fram (fun b => b = r) w w') : BKS w'.heap L :=
  h.fram hf (fun p hp b hb hx => Own.nemap (h.bk p hp) hm b hb hx)

theorem BKS.blk {w w' : World} {L : List (Value × List Nat)} {r t : Nat} {cs : List Value} (h : BKS w.heap L) (hb' : Blk w.heap r cs t) (ht : 110 ≠ t) (hf : Fram (fun b => b = r) w w') : BKS w'.heap L :=
  h.fram hf (fun p hp b hb hx => Own.neblk (h.bk p hp) hb' ht b hb hx)

theorem BKS.none {w w' : World} {L : List (Value × List Nat)} (h : BKS w.heap L) (hf : Fram none' w w') : BKS w'.heap L := h.fram hf (fun _ _ _ _ h => h)

theorem bks_ins {α : Type} [DecidableEq α] {H' : Array Obj} {l : List (α × Value)} {ids ids' : α → List Nat} {a : α} {R : List (Value × List Nat)} {v' : Value} (hl : look l a = none) (hs : ∀ k, k ≠ a → ids' k = ids k) (hb : BKS H' ((v', ids' a) :: (l.map (fun p => (p.2, ids p.1)) ++ R))) :
    BKS H' ((ups l a v').map (fun p => (p.2, ids' p.1)) ++ R) := by
  have hm := look_none.1 hl
  have e1 : (ups l a v').map (fun p => (p.2, ids' p.1)) = l.map (fun p => (p.2, ids p.1)) ++ [(v', ids' a)] := by
    unfold ups
    rw [hl]
    simp only [List.map_append, List.map_cons, List.map_nil]
    congr 1
    refine List.map_congr_left (fun p hp => ?_)
    rw [hs p.1 (fun hx => hm (by rw [← hx]; exact List.mem_map_of_mem hp))]
  rw [e1]
  refine hb.perm ?_
  rw [List.append_assoc]
  exact List.perm_middle.symm

/-- The blocks of buckets. -/
def VB (L : List (Value × List Nat)) (b : Nat) : Prop := ∃ p ∈ L, p.1.ownBlock = some b

/-- What an update of buckets may leave: their blocks are old ones or new. -/
def VNew (V0 : Nat → Prop) (N : Nat) (L : List (Value × List Nat)) : Prop := ∀ b, VB L b → V0 b ∨ N ≤ b

theorem VNew.app {V0 : Nat → Prop} {N : Nat} {v v' : Value} {x y : List Nat} {L : List (Value × List Nat)} {sz : Nat} (h : VNew V0 N ((v, x) :: L)) (hloc : v'.ownBlock = v.ownBlock ∨ v'.ownBlock = some sz) (hs : N ≤ sz) : VNew V0 N ((v', y) :: L) := by
  rintro b ⟨p, hp, hb⟩
  rcases List.mem_cons.1 hp with rfl | hp
  · rcases hloc with h' | h'
    · rw [h'] at hb; exact h b ⟨(v, x), by simp, hb⟩
    · rw [h'] at hb; cases hb; exact .inr hs
  · exact h b ⟨p, by simp [hp], hb⟩

theorem VNew.perm {V0 : Nat → Prop} {N : Nat} {L L' : List (Value × List Nat)} (h : VNew V0 N L) (hp : ∀ p ∈ L', p.1.ownBlock = Option.none ∨ ∃ q ∈ L, q.1 = p.1) : VNew V0 N L' := by
  rintro b ⟨p, hpm, hb⟩
  rcases hp p hpm with h' | ⟨q, hq, he⟩
  · rw [h'] at hb; cases hb
  · exact h b ⟨q, hq, by rw [he]; exact hb⟩

/-- What is left of a bucket's map when the bucket is taken; its values are its own. -/
theorem ups_vals {α : Type} [DecidableEq α] {l : List (α × Value)} {a : α} {v' : Value} : ∀ p ∈ ups l a v', p.2 = v' ∨ p ∈ l := by
  intro p hp
  unfold ups at hp
  split at hp
  · rcases List.mem_or_eq_of_mem_set hp with h | h
    · exact .inr h
    · exact .inl (by rw [h])
  · rcases List.mem_append.1 hp with h | h
    · exact .inr h
    · simp at h; exact .inl (by rw [h])

theorem lookV_own {α : Type} [DecidableEq α] {l : List (α × Value)} {a : α} : ((lookV l a).getD (.slice none 0 0)).ownBlock = none ∨ ∃ q ∈ l, q.2 = (lookV l a).getD (.slice none 0 0) := by
  cases h : lookV l a with
  | none => exact .inl rfl
  | some v => exact .inr ⟨(a, v), look_mem h, rfl⟩

end Go.Proofs.Qxb6500569aGreat
