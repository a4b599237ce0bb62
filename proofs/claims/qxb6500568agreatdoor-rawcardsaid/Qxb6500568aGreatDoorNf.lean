import Derived.Test.Qxb6500568aGreatDoorNe
namespace Go.Proofs.Qxb6500568aGreatDoor
open Ieee
set_option linter.unusedVariables false
set_option linter.unusedSimpArgs false
set_option linter.unusedSectionVars false

/-! Trees that the parser makes; what a final state of the functions says of a piece. -/

def NmW (s : Str) : Prop := s ≠ [] ∧ s.length ≤ 40
def FnW (n : Nat) (ps : List Str) : Prop := n ≠ 0 ∧ (∀ s ∈ ps, NmW s) ∧ ps.length ≤ 3
def CallW (f zs : Tr) : Prop := max 2 (max (dE f) (1 + dA zs)) ≤ 128 ∧ lenE zs ≤ 3
def W0 (lp : Bool) (n c k : Nat) (s : Str) : Prop :=
  if c = 1 then W64 k ∧ (isNaNW k = true → k = nanB) else if c = 2 then s.length ≤ 40 else if c = 3 then NmW s else if c = 14 then NmW s ∧ n + 1 ≤ 12 else if c = 29 then lp = true else True
def W1 (n c k : Nat) (s : Str) (ps : List Str) (x : Tr) (wx : Bool → Nat → Prop) : Prop :=
  if c = 6 then FnW k ps ∧ wx false ps.length else if c = 7 then wx false n else if c = 9 then (1 ≤ k ∧ k ≤ 3) ∧ wx false n else if c = 15 then NmW s ∧ n + 1 ≤ 12 ∧ dE x ≤ 128 ∧ wx false n else if c = 17 then NmW s ∧ n + 1 ≤ 12 ∧ FnW k ps ∧ wx false ps.length else
  if c = 18 then NmW s ∧ dE x ≤ 128 ∧ wx false n else if c = 27 then dE x ≤ 127 ∧ wx false n else True
/-- how many locals a statement leaves alive. -/
def aftN (n : Nat) (x : Tr) : Nat := if x.c = 14 ∨ x.c = 15 ∨ x.c = 17 then n + 1 else if x.c = 16 then n + 2 else n
def W2 (lp : Bool) (n c k : Nat) (s t : Str) (x y : Tr) (wx wy : Bool → Nat → Prop) : Prop :=
  if c = 5 then lenE y ≤ 3 ∧ wx false n ∧ wy false n else if c = 8 then (k = 20 ∨ (11 ≤ k ∧ k ≤ 16) ∨ (1 ≤ k ∧ k ≤ 6)) ∧ wx false n ∧ wy false n else if c = 31 then wx lp n ∧ wy lp (aftN n x) else
  if c = 16 then NmW s ∧ NmW t ∧ n + 2 ≤ 12 ∧ CallW x y ∧ wx false n ∧ wy false n else if c = 20 then CallW x y ∧ wx false n ∧ wy false n else if c = 22 then dE x ≤ 128 ∧ wx false n ∧ wy true n else
  if c = 25 then NmW s ∧ NmW t ∧ n + 4 ≤ 12 ∧ dE x ≤ 128 ∧ wx false n ∧ wy true (n + 4) else if c = 28 then dE x ≤ 128 ∧ 1 + dE y ≤ 128 ∧ wx false n ∧ wy false n else wx false n ∧ wy false n
def W3 (lp : Bool) (n c : Nat) (s : Str) (x y z : Tr) (wx wy wz : Bool → Nat → Prop) : Prop :=
  if c = 19 then dE x ≤ 128 ∧ 1 + dE y ≤ 128 ∧ 2 + dE z ≤ 128 ∧ wx false n ∧ wy false n ∧ wz false n else if c = 21 then dE x ≤ 128 ∧ wx false n ∧ wy lp n ∧ wz lp n else
  NmW s ∧ n + 4 ≤ 12 ∧ dE x ≤ 128 ∧ dE y ≤ 128 ∧ wx false n ∧ wy false (n + 1) ∧ wz true (n + 4)
def W4 (n : Nat) (s : Str) (x y z : Tr) (wx wy wz ww : Bool → Nat → Prop) : Prop := NmW s ∧ n + 4 ≤ 12 ∧ dE x ≤ 128 ∧ dE y ≤ 128 ∧ dE z ≤ 128 ∧ wx false n ∧ wy false (n + 1) ∧ wz false (n + 2) ∧ ww true (n + 4)
/-- lp: a loop is open around; n: how many locals are alive. -/
def W : Tr → Bool → Nat → Prop
  | ⟨c, k, s, t, ps, []⟩ => fun lp n => W0 lp n c k s
  | ⟨c, k, s, t, ps, [x]⟩ => fun lp n => W1 n c k s ps x (fun l n => W x l n)
  | ⟨c, k, s, t, ps, [x, y]⟩ => fun lp n => W2 lp n c k s t x y (fun l n => W x l n) (fun l n => W y l n)
  | ⟨c, k, s, t, ps, [x, y, z]⟩ => fun lp n => W3 lp n c s x y z (fun l n => W x l n) (fun l n => W y l n) (fun l n => W z l n)
  | ⟨c, k, s, t, ps, [x, y, z, w]⟩ => fun lp n => W4 n s x y z (fun l n => W x l n) (fun l n => W y l n) (fun l n => W z l n) (fun l n => W w l n)
  | _ => fun _ _ => True

def Psf (F : Fns) : List Proto := F.map protoOf
def Fsf (F : Fns) (j : Nat) : FI := ⟨(fsAt F j).outer, (fsAt F j).upos⟩
theorem pr_psf (F : Fns) (j : Nat) : pr (Psf F) j = protoOf (fsAt F j) := by
  unfold pr Psf fsAt
  simp only [List.getD_eq_getElem?_getD, List.getElem?_map]
  cases F[j]? <;> rfl
theorem cod_psf (F : Fns) (j a : Nat) : cod (Psf F) j a = (fsAt F j).code[a]? := by unfold cod; rw [pr_psf]; rfl
theorem con_psf (F : Fns) (j a : Nat) : con (Psf F) j a = (fsAt F j).ks[a]? := by unfold con; rw [pr_psf]; rfl

/-- the final state F of the functions, seen behind a piece. -/
structure Cov (F S : Fns) (j : Nat) (r : Chn) (N : List Nat) : Prop where
  len : F.length = S.length
  ch : ∀ k ∈ chF j r, Gw (fsAt S k) (fsAt F k)
  fin : ∀ k ∈ N, fsAt F k = fsAt S k
theorem Cov.split {F S S1 T : Fns} {j : Nat} {r : Chn} {N M : List Nat} (h : Cov F T j r (N ++ M)) (hf : Fit S j r (N ++ M)) (m1 : Mo j r N S S1) (m2 : Mo j r M S1 T) : Cov F S1 j r N ∧ Cov F T j r M ∧ Fit S1 j r M := by
  have hnd := hf.nd
  refine ⟨⟨by rw [h.len, m2.len], fun k hk => (m2.ext k fun q => ?_).trans (h.ch k hk), fun k hk => ?_⟩, ⟨h.len, h.ch, fun k hk => h.fin k (List.mem_append_right _ hk)⟩, hf.right.mo m1⟩
  · exact (List.nodup_append.1 hnd).2.2 k hk k (List.mem_append_right _ q) rfl
  · rw [h.fin k (List.mem_append_left _ hk)]
    exact m2.same k (fun q => (List.nodup_append.1 (List.nodup_append.1 hnd).2.1).2.2 k hk k q rfl) (fun q => (List.nodup_append.1 hnd).2.2 k q k (List.mem_append_left _ hk) rfl)
theorem Cov.tr0 {F S T : Fns} {j : Nat} {r : Chn} {N : List Nat} (h : Cov F T j r N) (hf : Fit S j r N) (m : Mo j r [] S T) : Cov F S j r N :=
  ⟨by rw [h.len, m.len], fun k hk => (m.ext k (by simp)).trans (h.ch k hk), fun k hk => by
    rw [h.fin k hk]
    exact m.same k (by simp) fun q => (List.nodup_append.1 hf.nd).2.2 k q k hk rfl⟩

def At (F : Fns) (j a : Nat) (c : Cod) : Prop := ∀ (i : Nat) y, c[i]? = some y → (fsAt F j).code[a + i]? = some y
theorem At.app {F : Fns} {j a : Nat} {c d : Cod} (h : At F j a (c ++ d)) : At F j a c ∧ At F j (a + c.length) d := by
  refine ⟨fun i y hi => h i y (by rw [List.getElem?_append_left (List.getElem?_eq_some_iff.1 hi).1]; exact hi), fun i y hi => ?_⟩
  have := h (c.length + i) y (by rw [List.getElem?_append_right (by omega)]; simpa using hi)
  rw [show a + c.length + i = a + (c.length + i) by omega]
  exact this
theorem At.hd {F : Fns} {j a : Nat} {y : Nat × Nat} {d : Cod} (h : At F j a (y :: d)) : cod (Psf F) j a = some y := by rw [cod_psf]; exact h 0 y rfl
theorem At.tl {F : Fns} {j a : Nat} {y : Nat × Nat} {d : Cod} (h : At F j a (y :: d)) : At F j (a + 1) d := fun i z hi => by
  have := h (i + 1) z (by simpa using hi)
  rw [show a + 1 + i = a + (i + 1) by omega]
  exact this

structure Ok (F S : Fns) (j : Nat) (r : Chn) (N : List Nat) (q : Out) (x a : Nat) : Prop where
  ch : ChOK S j r
  fit : Fit S j r N
  cov : Cov F q.2 j r N
  at' : At F j a (q.1 x)

def CorE (t : Tr) : Prop := ∀ {j : Nat} {L : List Str} {r : Chn} {base x a : Nat} {S F : Fns}, Ok F S j r (numsT t) (cmp t 0 ((j, L) :: r) base a S) x a → CE (Psf F) (Fsf F) j L t a (a + ln (cmp t 0 ((j, L) :: r) base a S))
def CorA (t : Tr) : Prop := ∀ {j : Nat} {L : List Str} {r : Chn} {base x a : Nat} {S F : Fns}, Ok F S j r (numsT t) (cmp t 0 ((j, L) :: r) base a S) x a → CA (Psf F) (Fsf F) j L t a (a + ln (cmp t 0 ((j, L) :: r) base a S))
def CorI (t : Tr) : Prop := ∀ {i : Nat} {j : Nat} {L : List Str} {r : Chn} {base x a : Nat} {S F : Fns}, i ≠ 0 → Ok F S j r (numsT t) (cmp t i ((j, L) :: r) base a S) x a → CI (Psf F) (Fsf F) j L t i a (a + ln (cmp t i ((j, L) :: r) base a S))
def CorS (t : Tr) (lp : Bool) : Prop := ∀ {j : Nat} {L : List Str} {r : Chn} {base x a : Nat} {S F : Fns} {lc : List (Nat × Nat)}, Ok F S j r (numsT t) (cmp t 0 ((j, L) :: r) base a S) x a → L.length ≤ (fsAt S j).ns →
  (lp = true → ∃ r', lc = (base, x) :: r' ∧ a + ln (cmp t 0 ((j, L) :: r) base a S) ≤ x) → CS (Psf F) (Fsf F) j L lc t a (a + ln (cmp t 0 ((j, L) :: r) base a S)) ∧ (aftS L t).length ≤ (fsAt (cmp t 0 ((j, L) :: r) base a S).2 j).ns
def CorB (t : Tr) (lp : Bool) : Prop := ∀ {j : Nat} {L0 L : List Str} {r : Chn} {base x a : Nat} {S F : Fns} {lc : List (Nat × Nat)}, Ok F S j r (numsT t) (cmp t L0.length ((j, L) :: r) base a S) x a → L.length ≤ (fsAt S j).ns →
  (lp = true → ∃ r', lc = (base, x) :: r' ∧ a + ln (cmp t L0.length ((j, L) :: r) base a S) ≤ x) → CB (Psf F) (Fsf F) j L0 L lc t a (a + ln (cmp t L0.length ((j, L) :: r) base a S))

section
variable {F S : Fns} {j : Nat} {L : List Str} {r : Chn} {x a : Nat}
theorem Ok.cv {nm : Str} {l u g m : Nat} {T : Fns} {i : Nat × Nat} (hc : Cov F T j r []) (hv : VarD T j L nm l u g i) (hi : cod (Psf F) j m = some i) : CV (Psf F) (Fsf F) j L nm m l u g := by
  have hv := hv.ext (hc.ch j List.mem_cons_self)
  unfold VarD at hv
  unfold CV
  rcases hlk : lookA (vis L) nm with _ | s <;> rw [hlk] at hv
  · show (match posN (fsAt F j).outer nm with | some p => _ | none => _)
    have hv : (match posN (fsAt F j).outer nm with
      | some p => ∃ x, i = (u, x) ∧ (fsAt F j).upos[x]? = some p
      | none => ∃ k, i = (g, k) ∧ (fsAt F j).ks[k]? = some (vStr nm)) := hv
    rcases hp : posN (fsAt F j).outer nm with _ | p <;> rw [hp] at hv
    · obtain ⟨k, rfl, h⟩ := hv; exact ⟨k, hi, by rw [con_psf]; exact h⟩
    · obtain ⟨k, rfl, h⟩ := hv; exact ⟨k, hi, h⟩
  · have hv : i = (l, s) := hv
    subst hv; exact hi

/-- a function's literal. -/
theorem fnF_cf {n : Nat} {ps : List Str} {b : Tr} (hb : CorB b false) (hW : FnW n ps) (hc : ChOK S j r) (hf : Fit S j r (n :: numsT b)) (hcov : Cov F (fnF n ps ((j, L) :: r) (fun md ch b' a S => cmp b md ch b' a S) S) j r (n :: numsT b)) :
    CF (Psf F) (Fsf F) j L n ps (fun z => CB (Psf F) (Fsf F) n ps ps [] b 0 z) := by
  obtain ⟨h1, h2⟩ := fnF_mid (ps := ps) (L := L) hc hf
  have hn : n ∉ chF j r := fun q => (List.nodup_append.1 hf.nd).2.2 n q n List.mem_cons_self rfl
  have hnN : n ∉ numsT b := (List.nodup_cons.1 (List.nodup_append.1 hf.nd).2.1).1
  have hl : n < S.length := hf.lt n (by simp)
  have hS1 : fsAt (S.set n ⟨ps.length, ps.length, [], [], [], (vis L).map (·.1) ++ (fsAt S j).outer, []⟩) n = ⟨ps.length, ps.length, [], [], [], (vis L).map (·.1) ++ (fsAt S j).outer, []⟩ := by rw [fsAt_set hl, if_pos rfl]
  have hl1 : (S.set n ⟨ps.length, ps.length, [], [], [], (vis L).map (·.1) ++ (fsAt S j).outer, []⟩).length = S.length := List.length_set
  have e : fnF n ps ((j, L) :: r) (fun md ch b' a S => cmp b md ch b' a S) S = List.modify (cmp b ps.length ((n, ps) :: (j, L) :: r) 0 0 (S.set n ⟨ps.length, ps.length, [], [], [], (vis L).map (·.1) ++ (fsAt S j).outer, []⟩)).2 n (fun f => { f with code := (cmp b ps.length ((n, ps) :: (j, L) :: r) 0 0 (S.set n ⟨ps.length, ps.length, [], [], [], (vis L).map (·.1) ++ (fsAt S j).outer, []⟩)).1 0 ++ [(2, 0), (2, 0), (27, 0)] }) := rfl
  rw [e] at hcov
  generalize S.set n ⟨ps.length, ps.length, [], [], [], (vis L).map (·.1) ++ (fsAt S j).outer, []⟩ = S1 at *
  have m := mo_all b ps.length n ps ((j, L) :: r) 0 0 S1 h1 h2
  have hok := fun (x : Nat) => @hb n ps ps ((j, L) :: r) 0 x 0 S1 F []
  generalize cmp b ps.length ((n, ps) :: (j, L) :: r) 0 0 S1 = q at *
  have hl2 : n < q.2.length := by rw [m.mo.len, hl1]; exact hl
  have hm : ∀ k, fsAt (List.modify q.2 n fun f => { f with code := q.1 0 ++ [(2, 0), (2, 0), (27, 0)] }) k = if k = n then { fsAt q.2 n with code := q.1 0 ++ [(2, 0), (2, 0), (27, 0)] } else fsAt q.2 k := fun k => fsAt_mod hl2
  have hFn : fsAt F n = { fsAt q.2 n with code := q.1 0 ++ [(2, 0), (2, 0), (27, 0)] } := by rw [hcov.fin n List.mem_cons_self, hm, if_pos rfl]
  have hFc : ∀ k ∈ chF j r, Gw (fsAt q.2 k) (fsAt F k) := fun k hk => by
    have := hcov.ch k hk
    rwa [hm, if_neg fun (q : k = n) => hn (q ▸ hk)] at this
  have hat : At F n 0 (q.1 0 ++ [(2, 0), (2, 0), (27, 0)]) := fun i y hi => by rw [hFn, Nat.zero_add]; exact hi
  obtain ⟨a1, a2⟩ := hat.app
  have hcov2 : Cov F q.2 n ((j, L) :: r) (numsT b) := by
    refine ⟨by rw [hcov.len, List.length_modify], fun k hk => ?_, fun k hk => ?_⟩
    · rcases List.mem_cons.1 hk with rfl | hk
      · rw [hFn]; exact ⟨rfl, Nat.le_refl _, List.prefix_refl _, List.prefix_refl _, rfl, List.prefix_refl _⟩
      · exact hFc k hk
    · rw [hcov.fin k (List.mem_cons_of_mem _ hk), hm, if_neg fun (q : k = n) => hnN (q ▸ hk)]
  have hen := m.mo.ext n hnN
  have hu := m.mo.ch.1
  have hj := hFc j List.mem_cons_self
  have hnp : (fsAt F n).np = ps.length := by rw [hFn]; show (fsAt q.2 n).np = _; rw [hen.np, hS1]
  have hns : ps.length ≤ (fsAt F n).ns := by rw [hFn]; show _ ≤ (fsAt q.2 n).ns; have := hen.ns; rw [hS1] at this; exact this
  have huF : UpS F j L n := hu.mono (by rw [hFn]; exact ⟨rfl, rfl, rfl⟩) hj
  refine ⟨huF.1, ⟨?_, ?_⟩, ?_, hW.1, ?_, ?_, fun s hs => (hW.2.1 s hs).1, hW.2.2, 0 + ln q, hok 0 ⟨h1, h2, hcov2, a1⟩ (by rw [hS1]; exact Nat.le_refl _) (fun h => by cases h), ?_, ?_, ?_, ?_⟩
  · rw [pr_psf]; exact huF.2.1
  · rw [pr_psf]; exact huF.2.2
  · show n < (F.map protoOf).length
    rw [List.length_map, hcov.len, List.length_modify]; exact hl2
  · rw [pr_psf]; exact hnp
  · rw [pr_psf]; exact hns
  · exact a2.hd
  · exact a2.tl.hd
  · exact a2.tl.tl.hd
  · rw [cod_psf, hFn]
    refine List.getElem?_eq_none ?_
    show (q.1 0 ++ [(2, 0), (2, 0), (27, 0)]).length ≤ _
    rw [List.length_append]
    show (q.1 0).length + 3 ≤ 0 + (q.1 0).length + 3
    omega
end

end Go.Proofs.Qxb6500568aGreatDoor
