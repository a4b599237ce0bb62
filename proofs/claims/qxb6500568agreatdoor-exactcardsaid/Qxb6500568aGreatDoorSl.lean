import Derived.Test.Qxb6500568aGreatDoorSk
namespace Go.Proofs.Qxb6500568aGreatDoor
open Ieee
set_option linter.unusedVariables false
set_option linter.unusedSimpArgs false
set_option linter.unusedSectionVars false

/-! All modes; the whole text. -/

theorem ih_step {f : Nat} (I : IH f) : IH (f + 1) := by
  rintro m lv r n x s hm ⟨hp, h1, h4, h5, h5', h11, hlv, -, h12⟩
  show Po _ (stepP (parP f) m lv r n x s)
  refine .ite (fun e => ?_) fun n0 => .ite (fun e => ?_) fun n1 => .ite (fun e => ?_) fun n2 => .ite (fun e => ?_) fun n3 => .ite (fun e => ?_) fun n4 => .ite (fun e => ?_) fun n5 => .ite (fun e => ?_) fun n6 => .ite (fun e => ?_) fun n7 => .ite (fun e => ?_) fun n8 => .ite (fun e => ?_) fun n9 => .ite (fun e => ?_) fun n10 => .ite (fun e => ?_) fun n11 => ?_
  · subst e; exact st_expr I hp
  · subst e; exact st_climb I hp (h1 rfl).1 (h1 rfl).2
  · subst e; exact st_unary I hp
  · subst e; exact st_post I hp
  · subst e; exact st_tail I hp (h4 rfl).1 (h4 rfl).2
  · subst e; exact st_list I hp (h5 rfl) (h5' rfl)
  · subst e; exact st_block I hp
  · subst e; exact st_stmts I hp (hlv (by omega))
  · subst e; exact st_stmt I hp (hlv (by omega))
  · subst e; exact st_if I hp (hlv (by omega))
  · subst e; exact st_body I hp
  · subst e; exact st_pars I hp (h11 rfl).1 (h11 rfl).2.1 (h11 rfl).2.2
  · have e : m = 12 := by omega
    subst e
    exact st_lit I hp (h12 rfl)
theorem par_q : ∀ f, IH f
  | 0 => fun m lv r n x s _ _ t s' h => by cases h
  | f + 1 => ih_step (par_q f)
/-- what a text's tree is like; k: how many literals. -/
structure TrOK (t : Tr) (k : Nat) : Prop where
  ly : LyL 3 t
  w : W t false 0
  nums : numsT t = List.range' 1 k
  k12 : k ≤ 12
theorem chunk_ok {f : Nat} {tk : List Tok} {t : Tr} {s : PS} (hT : TkOK tk) (h : chunkP f tk = some (.inr (t, s))) : TrOK t s.fu := by
  have hp : Pe ⟨tk, 0, 0, 0⟩ := ⟨hT, Nat.zero_le _⟩
  have := Po.bd (Q := fun t s => TrOK t s.fu) (f := fun t s => if s.k = 0 then okP t s else failP 15 s) ((par_q f).i6 (lv := 1) (r := 0) (n := 0) (x := dumT) hp) (fun t s1 ⟨q1, q2, q3, q4⟩ => .ite (fun _ => .ok ⟨q1, q2, q4, q3.f12⟩) fun _ => .fail)
  exact this t s h
theorem TrOK.nd {t : Tr} {k : Nat} (h : TrOK t k) : (0 :: numsT t).Nodup ∧ ∀ m ∈ 0 :: numsT t, m < k + 1 := by
  rw [h.nums]
  refine ⟨List.nodup_cons.2 ⟨fun q => ?_, List.nodup_range' ..⟩, fun m hm => ?_⟩
  · rw [List.mem_range'_1] at q; omega
  · rcases List.mem_cons.1 hm with rfl | hm
    · omega
    · rw [List.mem_range'_1] at hm; omega
/-- the arena of a tree. -/
def arena (t : Tr) : Arena := Nd.zero :: lay t 1
theorem arena_is {t : Tr} {k : Nat} (h : TrOK t k) : IsSL (arena t) (rt t 1) t := by
  refine h.ly.ok 1 _ (Nat.le_refl _) fun i x hi => ?_
  unfold nd arena
  rw [List.getD_eq_getElem?_getD, Nat.add_comm 1 i, List.getElem?_cons_succ, hi]; rfl
theorem arena_len {t : Tr} {k : Nat} (h : TrOK t k) : (arena t).length = ndT t + 1 := by
  show (lay t 1).length + 1 = _
  rw [h.ly.len]
/-- the whole of the plain law: a text's tree, compiled, runs as the interpreter runs it. -/
theorem text_ends {t : Tr} {k : Nat} (h : TrOK t k) {G : Arena} {root : Nat} (hA : AOK G) (hG : IsSL G root t) (h0 : (nd G 0).A = 0) (fuel : Nat) : Ends G root (Psf (progF t (k + 1))) (istart G root fuel) (astart (Psf (progF t (k + 1))) fuel) := by
  obtain ⟨n1, n2⟩ := h.nd
  obtain ⟨f1, f2⟩ := prog_fnd hG h.w h0 n1 n2
  exact start_ends hA f1 f2 fuel

end Go.Proofs.Qxb6500568aGreatDoor
