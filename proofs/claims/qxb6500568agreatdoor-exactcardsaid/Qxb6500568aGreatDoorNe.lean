import Derived.Test.Qxb6500568aGreatDoorNd
namespace Go.Proofs.Qxb6500568aGreatDoor
open Ieee
set_option linter.unusedVariables false
set_option linter.unusedSimpArgs false
set_option linter.unusedSectionVars false

/-! The same for trees with two and more children. -/

theorem add2 {a b c d : Nat} (h : a = c) (k : b = d) : a + b = c + d := by rw [h, k]
section
variable {j : Nat} {r : Chn} {S : Fns} {L : List Str}

theorem mo2 {x y : Tr} (hx : MoT x) (hy : MoT y) {c fk : Nat} {fs ft : Str} {fp : List Str} {md base a : Nat} (hc : ChOK S j r) (hf : Fit S j r (numsT x ++ numsT y)) :
    MoP j r (numsT x ++ numsT y) S (cK2 c fk fs ft x y (fun md ch b a S => cmp x md ch b a S) (fun md ch b a S => cmp y md ch b a S) md ((j, L) :: r) base a S) := by
  have m := fun base => hx 0 j L r base a S hc hf.left
  have e1 : ∀ base x_1, ((cmp x 0 ((j, L) :: r) base a S).1 x_1).length = ((cmp x 0 ((j, L) :: r) base a S).1 0).length := fun base x1 => (m base).ln x1
  have k : ∀ {T : Fns} (hT : Mo j r (numsT x) S T) md L base a, Mo j r (numsT x ++ numsT y) S (cmp y md ((j, L) :: r) base a T).2 ∧ ∀ x_1, ((cmp y md ((j, L) :: r) base a T).1 x_1).length = ((cmp y md ((j, L) :: r) base a T).1 0).length :=
    fun hT md L base a => hy.then (x := x) hT hf md L base a
  have hd : ∀ {T : Fns} {N : List Nat} n, Mo j r N S T → Mo j r N S (declF j n T) := fun n m => m.tr0 (declF_mo (by rw [m.len]; exact hf.ltj) m.ch)
  unfold cK2
  dsimp only
  refine .ite (fun _ => ?_) fun _ => .ite (fun _ => ?_) fun _ => .ite (fun _ => ?_) fun _ => .ite (fun _ => ?_) fun _ => .ite (fun _ => ?_) fun _ => .ite (fun _ => .ite (fun _ => ?_) fun _ => ?_) fun _ => .ite (fun _ => ?_) fun _ => .ite (fun _ => ?_) fun _ =>
    .ite (fun _ => ?_) fun _ => .ite (fun _ => ?_) fun _ => .ite (fun _ => ?_) fun _ => .ite (fun _ => ?_) fun _ => MoP.none hc
  · have q := k (m 0).mo 0 L 0 (a + ln (cmp x 0 ((j, L) :: r) 0 a S)); exact ⟨q.1, fun x1 => by show List.length (_ ++ _) = List.length (_ ++ _); simp only [List.length_append]; rw [e1, q.2]⟩
  · have q := k (m 0).mo 0 L 0 (a + ln (cmp x 0 ((j, L) :: r) 0 a S)); exact ⟨q.1, fun x1 => by show List.length (_ ++ _) = List.length (_ ++ _); simp only [List.length_append]; rw [e1, q.2]⟩
  · have q := k (m 0).mo 0 L 0 (a + ln (cmp x 0 ((j, L) :: r) 0 a S)); exact ⟨q.1, fun x1 => by show List.length (_ ++ _) = List.length (_ ++ _); simp only [List.length_append]; rw [e1, q.2]⟩
  · have q := k (m 0).mo 0 L 0 (a + ln (cmp x 0 ((j, L) :: r) 0 a S) + 1); exact ⟨q.1, fun x1 => by show List.length (_ ++ _) = List.length (_ ++ _); simp only [List.length_append]; rw [e1, q.2]⟩
  · have q := k (m 0).mo 0 L 0 (a + ln (cmp x 0 ((j, L) :: r) 0 a S) + 1); exact ⟨q.1, fun x1 => by show List.length (_ ++ _) = List.length (_ ++ _); simp only [List.length_append]; rw [e1, q.2]⟩
  · have q := k (m 0).mo 0 L 0 (a + ln (cmp x 0 ((j, L) :: r) 0 a S)); exact ⟨q.1, fun x1 => by show List.length (_ ++ _) = List.length (_ ++ _); simp only [List.length_append]; rw [e1, q.2]⟩
  · have q := k (m 0).mo (md + 1) L 0 (a + ln (cmp x 0 ((j, L) :: r) 0 a S) + 1); exact ⟨q.1, fun x1 => by show List.length (_ ++ _) = List.length (_ ++ _); simp only [List.length_append]; rw [e1, q.2]⟩
  · have q := k (m base).mo md (aftS L x) base (a + ln (cmp x 0 ((j, L) :: r) base a S)); exact ⟨q.1, fun x1 => by show List.length (_ ++ _) = List.length (_ ++ _); simp only [List.length_append]; rw [e1]; exact congrArg _ (q.2 x1)⟩
  · have q := k (m 0).mo 0 L 0 (a + ln (cmp x 0 ((j, L) :: r) 0 a S)); exact ⟨hd _ q.1, fun x1 => by show List.length (_ ++ _) = List.length (_ ++ _); simp only [List.length_append]; rw [e1, q.2]⟩
  · have q := k (m 0).mo 0 L 0 (a + ln (cmp x 0 ((j, L) :: r) 0 a S)); exact ⟨q.1, fun x1 => by show List.length (_ ++ _) = List.length (_ ++ _); simp only [List.length_append]; rw [e1, q.2]⟩
  · have q := k (m 0).mo L.length L L.length (a + ln (cmp x 0 ((j, L) :: r) 0 a S) + 1); exact ⟨q.1, fun x1 => by show List.length (_ ++ _) = List.length (_ ++ _); simp only [List.length_append]; rw [e1]⟩
  · have q := k (hd (L.length + 4) (m 0).mo) (L.length + 4) (L ++ [[], [], fs, ft]) L.length (a + ln (cmp x 0 ((j, L) :: r) 0 a S) + 5); exact ⟨q.1, fun x1 => by show List.length (_ ++ _) = List.length (_ ++ _); simp only [List.length_append]; rw [e1]⟩
  · have q := k (m 0).mo 0 L 0 (a + ln (cmp x 0 ((j, L) :: r) 0 a S)); exact ⟨q.1, fun x1 => by show List.length (_ ++ _) = List.length (_ ++ _); simp only [List.length_append]; rw [e1, q.2]⟩

theorem mo3 {x y z : Tr} (hx : MoT x) (hy : MoT y) (hz : MoT z) {c : Nat} {fs : Str} {md base a : Nat} (hc : ChOK S j r) (hf : Fit S j r (numsT x ++ (numsT y ++ numsT z))) :
    MoP j r (numsT x ++ (numsT y ++ numsT z)) S (cK3 c fs (fun md ch b a S => cmp x md ch b a S) (fun md ch b a S => cmp y md ch b a S) (fun md ch b a S => cmp z md ch b a S) md ((j, L) :: r) base a S) := by
  have m := hx 0 j L r 0 a S hc hf.left
  have hf2 : Fit S j r ((numsT x ++ numsT y) ++ numsT z) := by rw [List.append_assoc]; exact hf
  have e1 : ∀ x_1, ((cmp x 0 ((j, L) :: r) 0 a S).1 x_1).length = ((cmp x 0 ((j, L) :: r) 0 a S).1 0).length := fun x1 => m.ln x1
  have k : ∀ {T : Fns} (hT : Mo j r (numsT x) S T) md L base a, Mo j r (numsT x ++ numsT y) S (cmp y md ((j, L) :: r) base a T).2 ∧ ∀ x_1, ((cmp y md ((j, L) :: r) base a T).1 x_1).length = ((cmp y md ((j, L) :: r) base a T).1 0).length :=
    fun hT md L base a => hy.then (x := x) hT hf2.left md L base a
  have k2 : ∀ {T : Fns} (hT : Mo j r (numsT x ++ numsT y) S T) md L base a, Mo j r (numsT x ++ (numsT y ++ numsT z)) S (cmp z md ((j, L) :: r) base a T).2 ∧ ∀ x_1, ((cmp z md ((j, L) :: r) base a T).1 x_1).length = ((cmp z md ((j, L) :: r) base a T).1 0).length :=
    fun hT md L base a => by rw [← List.append_assoc]; exact hz.then (x := x) hT hf2 md L base a
  have hd : ∀ {T : Fns} {N : List Nat} n, Mo j r N S T → Mo j r N S (declF j n T) := fun n m => m.tr0 (declF_mo (by rw [m.len]; exact hf.ltj) m.ch)
  unfold cK3
  dsimp only
  refine .ite (fun _ => ?_) fun _ => .ite (fun _ => ?_) fun _ => .ite (fun _ => ?_) fun _ => MoP.none hc
  · have q := k m.mo 0 L 0 (a + ln (cmp x 0 ((j, L) :: r) 0 a S))
    have q2 := k2 q.1 0 L 0 (a + ln (cmp x 0 ((j, L) :: r) 0 a S) + ln (cmp y 0 ((j, L) :: r) 0 (a + ln (cmp x 0 ((j, L) :: r) 0 a S)) (cmp x 0 ((j, L) :: r) 0 a S).2))
    exact ⟨q2.1, fun x1 => by show List.length (_ ++ _) = List.length (_ ++ _); simp only [List.length_append]; rw [e1]; exact add2 (add2 (add2 rfl (q.2 x1)) (q2.2 x1)) rfl⟩
  · have q := k m.mo L.length L base (a + ln (cmp x 0 ((j, L) :: r) 0 a S) + 1)
    have q2 := k2 q.1 L.length L base (a + ln (cmp x 0 ((j, L) :: r) 0 a S) + 1 + ln (cmp y L.length ((j, L) :: r) base (a + ln (cmp x 0 ((j, L) :: r) 0 a S) + 1) (cmp x 0 ((j, L) :: r) 0 a S).2) + 1)
    exact ⟨q2.1, fun x1 => by show List.length (_ ++ _) = List.length (_ ++ _); simp only [List.length_append]; rw [e1]; exact add2 (add2 (add2 rfl (q.2 x1)) rfl) (q2.2 x1)⟩
  · have q := k (hd (L.length + 1) m.mo) 0 (L ++ [[]]) 0 (a + ln (cmp x 0 ((j, L) :: r) 0 a S) + 1)
    have w := (conF_mo (v := vNum (fInt 1)) (by rw [(hd (L.length + 2) q.1).len]; exact hf.ltj) (hd (L.length + 2) q.1).ch).1
    have q2 := k2 (hd (L.length + 4) ((hd (L.length + 2) q.1).tr0 w)) (L.length + 4) (L ++ [[], [], [], fs]) L.length (a + ln (cmp x 0 ((j, L) :: r) 0 a S) + 1 + ln (cmp y 0 ((j, L ++ [[]]) :: r) 0 (a + ln (cmp x 0 ((j, L) :: r) 0 a S) + 1) (declF j (L.length + 1) (cmp x 0 ((j, L) :: r) 0 a S).2)) + 2 + 6)
    exact ⟨q2.1, fun x1 => by show List.length (_ ++ _) = List.length (_ ++ _); simp only [List.length_append]; rw [e1]; exact add2 (add2 (add2 rfl (q.2 x1)) rfl) rfl⟩

theorem mo4 {x y z w : Tr} (hx : MoT x) (hy : MoT y) (hz : MoT z) (hw : MoT w) {c : Nat} {fs : Str} {md base a : Nat} (hc : ChOK S j r) (hf : Fit S j r (numsT x ++ (numsT y ++ (numsT z ++ numsT w)))) :
    MoP j r (numsT x ++ (numsT y ++ (numsT z ++ numsT w))) S (cK4 c fs (fun md ch b a S => cmp x md ch b a S) (fun md ch b a S => cmp y md ch b a S) (fun md ch b a S => cmp z md ch b a S) (fun md ch b a S => cmp w md ch b a S) md ((j, L) :: r) base a S) := by
  have m := hx 0 j L r 0 a S hc hf.left
  have hf2 : Fit S j r (((numsT x ++ numsT y) ++ numsT z) ++ numsT w) := by rw [List.append_assoc, List.append_assoc]; exact hf
  have e1 : ∀ x_1, ((cmp x 0 ((j, L) :: r) 0 a S).1 x_1).length = ((cmp x 0 ((j, L) :: r) 0 a S).1 0).length := fun x1 => m.ln x1
  have k : ∀ {T : Fns} (hT : Mo j r (numsT x) S T) md L base a, Mo j r (numsT x ++ numsT y) S (cmp y md ((j, L) :: r) base a T).2 ∧ ∀ x_1, ((cmp y md ((j, L) :: r) base a T).1 x_1).length = ((cmp y md ((j, L) :: r) base a T).1 0).length :=
    fun hT md L base a => hy.then (x := x) hT hf2.left.left md L base a
  have k2 : ∀ {T : Fns} (hT : Mo j r (numsT x ++ numsT y) S T) md L base a, Mo j r ((numsT x ++ numsT y) ++ numsT z) S (cmp z md ((j, L) :: r) base a T).2 ∧ ∀ x_1, ((cmp z md ((j, L) :: r) base a T).1 x_1).length = ((cmp z md ((j, L) :: r) base a T).1 0).length :=
    fun hT md L base a => hz.then (x := x) hT hf2.left md L base a
  have k3 : ∀ {T : Fns} (hT : Mo j r ((numsT x ++ numsT y) ++ numsT z) S T) md L base a, Mo j r (numsT x ++ (numsT y ++ (numsT z ++ numsT w))) S (cmp w md ((j, L) :: r) base a T).2 ∧ ∀ x_1, ((cmp w md ((j, L) :: r) base a T).1 x_1).length = ((cmp w md ((j, L) :: r) base a T).1 0).length :=
    fun hT md L base a => by rw [← List.append_assoc, ← List.append_assoc]; exact hw.then (x := x) hT hf2 md L base a
  have hd : ∀ {T : Fns} {N : List Nat} n, Mo j r N S T → Mo j r N S (declF j n T) := fun n m => m.tr0 (declF_mo (by rw [m.len]; exact hf.ltj) m.ch)
  unfold cK4
  dsimp only
  refine .ite (fun _ => ?_) fun _ => MoP.none hc
  have q := k (hd (L.length + 1) m.mo) 0 (L ++ [[]]) 0 (a + ln (cmp x 0 ((j, L) :: r) 0 a S) + 1)
  have q2 := k2 (hd (L.length + 2) q.1) 0 (L ++ [[], []]) 0 (a + ln (cmp x 0 ((j, L) :: r) 0 a S) + 1 + ln (cmp y 0 ((j, L ++ [[]]) :: r) 0 (a + ln (cmp x 0 ((j, L) :: r) 0 a S) + 1) (declF j (L.length + 1) (cmp x 0 ((j, L) :: r) 0 a S).2)) + 1)
  have q3 := fun a => k3 (hd (L.length + 4) q2.1) (L.length + 4) (L ++ [[], [], [], fs]) L.length a
  exact ⟨(q3 _).1, fun x1 => by show List.length (_ ++ _) = List.length (_ ++ _); simp only [List.length_append]; rw [e1]; exact add2 (add2 (add2 (add2 rfl (q.2 x1)) rfl) (q2.2 x1)) rfl⟩
end

theorem mo_all : ∀ t, MoT t
  | ⟨c, fk, fs, ft, fp, []⟩ => fun md j L r base a S hc hf => mo0 (md := md) (base := base) (a := a) hc hf
  | ⟨c, fk, fs, ft, fp, [x]⟩ => fun md j L r base a S hc hf => mo1 (md := md) (base := base) (a := a) (mo_all x) hc hf
  | ⟨c, fk, fs, ft, fp, [x, y]⟩ => fun md j L r base a S hc hf => mo2 (md := md) (base := base) (a := a) (fp := fp) (mo_all x) (mo_all y) hc hf
  | ⟨c, fk, fs, ft, fp, [x, y, z]⟩ => fun md j L r base a S hc hf => mo3 (md := md) (base := base) (a := a) (mo_all x) (mo_all y) (mo_all z) hc hf
  | ⟨c, fk, fs, ft, fp, [x, y, z, w]⟩ => fun md j L r base a S hc hf => mo4 (md := md) (base := base) (a := a) (mo_all x) (mo_all y) (mo_all z) (mo_all w) hc hf
  | ⟨c, fk, fs, ft, fp, _ :: _ :: _ :: _ :: _ :: _⟩ => fun md j L r base a S hc hf => MoP.none hc

end Go.Proofs.Qxb6500568aGreatDoor
