import Derived.Test.Qxb6500568aGreatDoorNc
namespace Go.Proofs.Qxb6500568aGreatDoor
open Ieee
set_option linter.unusedVariables false
set_option linter.unusedSimpArgs false
set_option linter.unusedSectionVars false

/-! The compiler only lets the pools grow; a code's length does not hang on the exit. -/

/-- the numbers of the literals in a tree, in the text's order. -/
def numsT : Tr → List Nat
  | ⟨c, n, _, _, _, [a]⟩ => if c = 6 then n :: numsT a else if c = 17 then n :: numsT a else numsT a
  | ⟨_, _, _, _, _, [a, b]⟩ => numsT a ++ numsT b
  | ⟨_, _, _, _, _, [a, b, d]⟩ => numsT a ++ (numsT b ++ numsT d)
  | ⟨_, _, _, _, _, [a, b, d, e]⟩ => numsT a ++ (numsT b ++ (numsT d ++ numsT e))
  | _ => []

structure MoP (j : Nat) (r : Chn) (N : List Nat) (S : Fns) (o : Out) : Prop where
  mo : Mo j r N S o.2
  ln : ∀ x, (o.1 x).length = ln o
theorem MoP.ite {j : Nat} {r : Chn} {N : List Nat} {S : Fns} {a b : Out} {c : Prop} [Decidable c] (h1 : c → MoP j r N S a) (h2 : ¬ c → MoP j r N S b) : MoP j r N S (if c then a else b) := by
  by_cases h : c
  · rw [if_pos h]; exact h1 h
  · rw [if_neg h]; exact h2 h
theorem Mo.weak {j : Nat} {r : Chn} {N M : List Nat} {S T : Fns} (h : Mo j r N S T) (hs : ∀ k ∈ N, k ∈ M) : Mo j r M S T :=
  ⟨h.len, fun k hk => h.ext k fun q => hk (hs k q), fun k hk => h.same k fun q => hk (hs k q), h.ch⟩
theorem MoP.none {j : Nat} {r : Chn} {N : List Nat} {S : Fns} (hc : ChOK S j r) : MoP j r N S (fun _ => [], S) := ⟨(Mo.refl hc).weak (by simp), fun x => rfl⟩

theorem fnF_mid {n j : Nat} {ps L : List Str} {r : Chn} {S : Fns} {N : List Nat} (hc : ChOK S j r) (hf : Fit S j r (n :: N)) :
    ChOK (S.set n ⟨ps.length, ps.length, [], [], [], (vis L).map (·.1) ++ (fsAt S j).outer, []⟩) n ((j, L) :: r) ∧ Fit (S.set n ⟨ps.length, ps.length, [], [], [], (vis L).map (·.1) ++ (fsAt S j).outer, []⟩) n ((j, L) :: r) N := by
  have hn : n ∉ chF j r := fun q => (List.nodup_append.1 hf.nd).2.2 n q n List.mem_cons_self rfl
  have hl : n < S.length := hf.lt n (by simp)
  have hm : ∀ k, fsAt (S.set n ⟨ps.length, ps.length, [], [], [], (vis L).map (·.1) ++ (fsAt S j).outer, []⟩) k = if k = n then ⟨ps.length, ps.length, [], [], [], (vis L).map (·.1) ++ (fsAt S j).outer, []⟩ else fsAt S k := fun k => fsAt_set hl
  refine ⟨⟨?_, hc.same fun k hk => ?_⟩, ?_, fun k hk => ?_⟩
  · unfold UpS
    rw [hm, if_pos rfl, hm, if_neg fun (q : j = n) => hn (q ▸ List.mem_cons_self)]
    exact ⟨rfl, rfl, fun u k x hu => by simp at hu⟩
  · rw [hm, if_neg fun (q : k = n) => hn (q ▸ hk)]
    exact ⟨rfl, rfl, rfl⟩
  · exact (List.perm_middle.nodup_iff).1 hf.nd
  · rw [List.length_set]
    exact hf.lt k ((List.perm_middle.mem_iff).2 hk)
theorem fnF_mo {n j : Nat} {ps L : List Str} {r : Chn} {k : CKid} {S : Fns} {N : List Nat}
    (hk : ∀ S1, ChOK S1 n ((j, L) :: r) → Fit S1 n ((j, L) :: r) N → Mo n ((j, L) :: r) N S1 (k ps.length ((n, ps) :: (j, L) :: r) 0 0 S1).2) (hc : ChOK S j r) (hf : Fit S j r (n :: N)) :
    Mo j r (n :: N) S (fnF n ps ((j, L) :: r) k S) := by
  obtain ⟨h1, h2⟩ := fnF_mid (ps := ps) (L := L) hc hf
  have m := hk _ h1 h2
  have hn : n ∉ chF j r := fun q => (List.nodup_append.1 hf.nd).2.2 n q n List.mem_cons_self rfl
  have hl : n < S.length := hf.lt n (by simp)
  have hm : ∀ k, fsAt (S.set n ⟨ps.length, ps.length, [], [], [], (vis L).map (·.1) ++ (fsAt S j).outer, []⟩) k = if k = n then ⟨ps.length, ps.length, [], [], [], (vis L).map (·.1) ++ (fsAt S j).outer, []⟩ else fsAt S k := fun k => fsAt_set hl
  show Mo j r (n :: N) S (List.modify (k ps.length ((n, ps) :: (j, L) :: r) 0 0 (S.set n ⟨ps.length, ps.length, [], [], [], (vis L).map (·.1) ++ (fsAt S j).outer, []⟩)).2 n _)
  generalize hq : k ps.length ((n, ps) :: (j, L) :: r) 0 0 (S.set n ⟨ps.length, ps.length, [], [], [], (vis L).map (·.1) ++ (fsAt S j).outer, []⟩) = q at m ⊢
  have hl2 : n < q.2.length := by rw [m.len, List.length_set]; exact hl
  refine ⟨by rw [List.length_modify, m.len, List.length_set], fun k hk => ?_, fun k hk hkc => ?_, m.ch.2.same fun k hk => ?_⟩ <;> rw [fsAt_mod hl2]
  · have hkn : k ≠ n := fun q => hk (q ▸ List.mem_cons_self)
    rw [if_neg hkn]
    have := m.ext k fun q => hk (List.mem_cons_of_mem _ q)
    rw [hm, if_neg hkn] at this
    exact this
  · have hkn : k ≠ n := fun q => hk (q ▸ List.mem_cons_self)
    rw [if_neg hkn, m.same k (fun q => hk (List.mem_cons_of_mem _ q)) (fun q => by rcases List.mem_cons.1 q with q | q; exact hkn q; exact hkc q), hm, if_neg hkn]
  · rw [if_neg fun (q : k = n) => hn (q ▸ hk)]
    exact ⟨rfl, rfl, rfl⟩

theorem Fit.nil {S : Fns} {j : Nat} {r : Chn} {N : List Nat} (h : Fit S j r N) : Fit S j r [] := Fit.left (M := N) (by simpa using h)

section
variable {j : Nat} {r : Chn} {S : Fns} {L : List Str}
def MoT (t : Tr) : Prop := ∀ (md j : Nat) (L : List Str) (r : Chn) (base a : Nat) (S : Fns), ChOK S j r → Fit S j r (numsT t) → MoP j r (numsT t) S (cmp t md ((j, L) :: r) base a S)

theorem mo0 {c fk : Nat} {fs : Str} {md base a : Nat} (hc : ChOK S j r) (hf : Fit S j r []) : MoP j r [] S (cK0 c fk fs md ((j, L) :: r) base a S) := by
  have hd : ∀ n, Mo j r [] S (declF j n S) := fun n => declF_mo hf.ltj hc
  unfold cK0
  refine .ite (fun _ => ⟨Mo.refl hc, fun x => rfl⟩) fun _ => .ite (fun _ => ⟨(conF_mo hf.ltj hc).1, fun x => rfl⟩) fun _ => .ite (fun _ => ⟨(conF_mo hf.ltj hc).1, fun x => rfl⟩) fun _ =>
    .ite (fun _ => ⟨(varF_ok hc hf).1, fun x => rfl⟩) fun _ => .ite (fun _ => ⟨Mo.refl hc, fun x => rfl⟩) fun _ => .ite (fun _ => ⟨hd _, fun x => rfl⟩) fun _ => .ite (fun _ => ⟨Mo.refl hc, fun x => rfl⟩) fun _ =>
    .ite (fun _ => ⟨Mo.refl hc, fun x => ?_⟩) fun _ => MoP.none hc
  unfold ln
  show List.length (if _ then _ else _) = List.length (if _ then _ else _)
  by_cases h : base < (hL ((j, L) :: r)).length
  · rw [if_pos h, if_pos h]; rfl
  · rw [if_neg h, if_neg h]; rfl

/-- a piece, then a change of the function at hand. -/
theorem MoP.code {N : List Nat} {S T : Fns} {q : Out} {f : Nat → Cod} (h : Mo j r N S T) (hl : ∀ x, (f x).length = (f 0).length) : MoP j r N S (f, T) := ⟨h, hl⟩

theorem mo1 {x : Tr} (hx : MoT x) {c fk : Nat} {fs ft : Str} {fp : List Str} {md base a : Nat} (hc : ChOK S j r) (hf : Fit S j r (numsT ⟨c, fk, fs, ft, fp, [x]⟩)) :
    MoP j r (numsT ⟨c, fk, fs, ft, fp, [x]⟩) S (cK1 c fk fs fp (fun md ch b a S => cmp x md ch b a S) md ((j, L) :: r) base a S) := by
  have hd : ∀ {T : Fns} n, Mo j r (numsT x) S T → Mo j r (numsT x) S (declF j n T) := fun {T} n m => m.tr0 (declF_mo (by rw [m.len]; exact hf.ltj) m.ch)
  unfold cK1
  by_cases h6 : c = 6
  · subst h6
    rw [if_pos rfl]
    exact ⟨fnF_mo (N := numsT x) (fun S1 h1 h2 => (hx _ _ _ _ _ _ _ h1 h2).mo) hc hf, fun x => rfl⟩
  rw [if_neg h6]
  by_cases h17 : c = 17
  · subst h17
    rw [if_neg (by decide), if_neg (by decide), if_neg (by decide), if_pos rfl]
    have m1 : Mo j r [] S (declF j (L.length + 1) S) := declF_mo hf.ltj hc
    refine ⟨m1.trans (fnF_mo (L := L ++ [fs]) (N := numsT x) (fun S1 h1 h2 => (hx _ _ _ _ _ _ _ h1 h2).mo) m1.ch (hf.mo m1)), fun x => rfl⟩
  have e : numsT ⟨c, fk, fs, ft, fp, [x]⟩ = numsT x := by
    show (if c = 6 then fk :: numsT x else if c = 17 then fk :: numsT x else numsT x) = _
    rw [if_neg h6, if_neg h17]
  rw [e] at hf ⊢
  have m := fun md a => hx md j L r 0 a S hc hf
  refine .ite (fun _ => ⟨(m _ _).mo, fun x => by simp [ln, (m 1 (a + 1)).ln x]⟩) fun _ => .ite (fun _ => ⟨(m _ _).mo, fun x => ?_⟩) fun _ => .ite (fun _ => ⟨hd _ (m _ _).mo, fun x => ?_⟩) fun _ =>
    .ite (fun h => absurd h h17) fun _ => .ite (fun _ => ⟨?_, fun x => ?_⟩) fun _ => .ite (fun _ => ⟨(m _ _).mo, fun x => ?_⟩) fun _ => MoP.none hc
  · simp [ln, (m 0 a).ln x]
  · simp [ln, (m 0 a).ln x]
  · exact (m 0 a).mo.tr0 (varF_ok (m 0 a).mo.ch (hf.mo (m 0 a).mo).nil).1
  · simp [ln, (m 0 a).ln x]
  · simp [ln, (m 0 a).ln x]

theorem MoT.then {x y : Tr} (hy : MoT y) {N : List Nat} {T : Fns} (m : Mo j r N S T) (hf : Fit S j r (N ++ numsT y)) (md : Nat) (L : List Str) (base a : Nat) : Mo j r (N ++ numsT y) S (cmp y md ((j, L) :: r) base a T).2 ∧ ∀ x, ((cmp y md ((j, L) :: r) base a T).1 x).length = ln (cmp y md ((j, L) :: r) base a T) := by
  have := hy md j L r base a T m.ch (hf.right.mo m)
  exact ⟨m.trans this.mo, this.ln⟩
end

end Go.Proofs.Qxb6500568aGreatDoor
