import Derived.Test.Qxb6500568aGreatDoorMf
namespace Go.Proofs.Qxb6500568aGreatDoor
open Ieee
set_option linter.unusedVariables false
set_option linter.unusedSimpArgs false
set_option linter.unusedSectionVars false

/-! A step of the interpreter keeps validity. -/

/-- the constants of an arena are valid. -/
def AOK (G : Arena) : Prop := ∀ n, W64 (nd G n).N ∧ (nd G n).S.length ≤ 40 ∧ (isNaNW (nd G n).N = true → (nd G n).N = nanB)

section
variable {G : Arena} {root : Nat} {s : IS} {v : PV}

theorem TOK.nil : TOK [] := ⟨by simp, fun i k v h => by simp at h, fun i j k u v h => by simp at h⟩
theorem IOK.tabD (h : IOK s) (n : Nat) : TOK (s.tabs.getD n []) ∧ ∀ q ∈ s.tabs.getD n [], ok s q.1 ∧ ok s q.2 := by
  rw [List.getD_eq_getElem?_getD]
  cases hq : s.tabs[n]? with
  | none => exact ⟨TOK.nil, fun q hq => by cases hq⟩
  | some t => exact h.tab t (List.mem_of_getElem? hq)
theorem tGet_ok {c t h : Nat} {tb : Tb} {k : PV} (hV : ∀ q ∈ tb, VV c t h q.1 ∧ VV c t h q.2) : VV c t h (tGet tb k) := by
  unfold tGet look
  cases hp : place tb (nrmK k) with
  | none => exact VV.nil _ _ _
  | some i =>
    obtain ⟨v, hv⟩ := place_get hp
    simp [hv]
    exact (hV _ (List.mem_of_getElem? hv)).2
theorem live_ok {c t h : Nat} {tb : Tb} (hV : ∀ q ∈ tb, VV c t h q.1 ∧ VV c t h q.2) : VV c t h (live tb).1 ∧ VV c t h (live tb).2 := by
  rcases live_mem tb with h | h
  · rw [h]; exact ⟨VV.nil _ _ _, VV.nil _ _ _⟩
  · exact hV _ h
theorem tNext_ok {c t h : Nat} {tb : Tb} {k u w : PV} (hV : ∀ q ∈ tb, VV c t h q.1 ∧ VV c t h q.2) (hn : tNext tb k = some (u, w)) : VV c t h u ∧ VV c t h w := by
  unfold tNext at hn
  split at hn
  · have := live_ok hV
    rw [Option.some.inj hn] at this; exact this
  · cases hp : place tb (nrmK k) with
    | none => rw [hp] at hn; cases hn
    | some i =>
      rw [hp] at hn
      have := live_ok (tb := tb.drop (i + 1)) (fun q hq => hV q (List.mem_of_mem_drop hq))
      have e : live (tb.drop (i + 1)) = (u, w) := Option.some.inj hn
      rw [e] at this; exact this

theorem IOK.ite {c : Prop} [Decidable c] {a b : IS} (ha : c → IOK a) (hb : ¬ c → IOK b) : IOK (if c then a else b) := by
  by_cases h : c
  · rw [if_pos h]; exact ha h
  · rw [if_neg h]; exact hb h
theorem IOK.raise (h : IOK s) {m : Str} (hm : m.length ≤ 40) : IOK (iraise m s) := h.throw (VV.str _ _ _ hm)
theorem IOK.iset (h : IOK s) {t k : PV} (hk : ok s k) (hv : ok s v) : IOK (iset t k v s) := by
  unfold Go.Proofs.Qxb6500568aGreatDoor.iset
  split
  · exact h.raise (by decide)
  · simp only
    split
    · exact h.fin _ _
    · split
      · exact h.raise (by decide)
      · have hl : (s.tabs.set t.N (tSet (s.tabs.getD t.N []) k v).2).length = s.tabs.length := by simp
        obtain ⟨q1, q2⟩ := tSet_ok (h.tabD t.N).1 (h.tabD t.N).2 hk hv
        refine ⟨fun z hz => by simp only [hl]; exact h.env z hz, fun u hu w hw => by simp only [hl]; exact h.val u hu w hw, fun u hu => ?_, h.nc, h.nt, by simp only [hl]; exact h.nh⟩
        simp only [hl]
        rcases List.mem_or_eq_of_mem_set hu with hu | rfl
        · exact h.tab u hu
        · exact ⟨q1, q2⟩
theorem IOK.res (h : IOK s) {r : Res} (hr : ∀ u, r = .ok u → ok s u) (hm : ∀ m, r = .error m → m.length ≤ 40) : IOK (ires r s) := by
  unfold ires
  cases r with
  | ok u => exact h.push (hr u rfl)
  | error m => exact h.raise (hm m rfl)
theorem binV_err {op : Nat} {a b : PV} {m : Str} (h : binV op a b = .error m) : m.length ≤ 40 := by
  unfold binV at h
  repeat' (split at h)
  all_goals first
    | (cases h; decide)
    | (cases h; done)
theorem unV_err {ts : List Tb} {op : Nat} {a : PV} {m : Str} (h : unV ts op a = .error m) : m.length ≤ 40 := by
  unfold unV at h
  repeat' (split at h)
  all_goals first
    | (cases h; decide)
    | (cases h; done)

theorem IOK.items (h : IOK s) (n k e : Nat) : IOK (iitems n k e s) := by
  unfold iitems
  split
  · exact h
  · exact (h.doT _ _ _ _).doT _ _ _ _
theorem IOK.burn (h : IOK s) : IOK (iburn s) := by
  unfold iburn
  split
  · exact h.fin _ _
  · exact h.flds _ _ _
theorem IOK.newT (h : IOK s) {n : Nat} (h5 : s.ths.length < 5) : IOK { s with ths := s.ths ++ [⟨1, n, 0, [], []⟩] } := by
  have hl : (s.ths ++ [(⟨1, n, 0, [], []⟩ : ITh)]).length = s.ths.length + 1 := by simp
  have hm : ∀ {w}, ok s w → VV s.clos.length (s.ths ++ [(⟨1, n, 0, [], []⟩ : ITh)]).length s.tabs.length w := fun hw => hw.mono (Nat.le_refl _) (by omega) (Nat.le_refl _)
  refine ⟨fun z hz => hm (h.env z hz), fun u hu w hw => ?_, fun u hu => ⟨(h.tab u hu).1, fun q hq => ⟨hm ((h.tab u hu).2 q hq).1, hm ((h.tab u hu).2 q hq).2⟩⟩, h.nc, by simp only [hl]; omega, h.nh⟩
  rcases List.mem_append.1 hu with hu | hu
  · exact hm (h.val u hu w hw)
  · rw [List.mem_singleton] at hu; subst hu; cases hw
theorem IOK.newTab (h : IOK s) (h5 : s.tabs.length < 12) : IOK { s with tabs := s.tabs ++ [[]] } := by
  have hl : (s.tabs ++ [([] : Tb)]).length = s.tabs.length + 1 := by simp
  have hm : ∀ {w}, ok s w → VV s.clos.length s.ths.length (s.tabs ++ [([] : Tb)]).length w := fun hw => hw.mono (Nat.le_refl _) (Nat.le_refl _) (by omega)
  refine ⟨fun z hz => hm (h.env z hz), fun u hu w hw => hm (h.val u hu w hw), fun u hu => ?_, h.nc, h.nt, by simp only [hl]; omega⟩
  rcases List.mem_append.1 hu with hu | hu
  · exact ⟨(h.tab u hu).1, fun q hq => ⟨hm ((h.tab u hu).2 q hq).1, hm ((h.tab u hu).2 q hq).2⟩⟩
  · rw [List.mem_singleton] at hu; subst hu; exact ⟨TOK.nil, fun q hq => by cases hq⟩
theorem IOK.newC (h : IOK s) {z : Nat × Nat} (h5 : s.clos.length < 24) : IOK { s with clos := s.clos ++ [z] } := by
  have hl : (s.clos ++ [z]).length = s.clos.length + 1 := by simp
  have hm : ∀ {w}, ok s w → VV (s.clos ++ [z]).length s.ths.length s.tabs.length w := fun hw => hw.mono (by omega) (Nat.le_refl _) (Nat.le_refl _)
  exact ⟨fun z hz => hm (h.env z hz), fun u hu w hw => hm (h.val u hu w hw), fun u hu => ⟨(h.tab u hu).1, fun q hq => ⟨hm ((h.tab u hu).2 q hq).1, hm ((h.tab u hu).2 q hq).2⟩⟩, by simp only [hl]; omega, h.nt, h.nh⟩

theorem IOK.brkC (h : IOK s) : IOK (match brkL s.th.tasks with | some (t, r) => s.setT { s.th with tasks := r, vals := cutTo t.x s.th.vals } | none => s.setT { s.th with tasks := [] }) := by
  cases brkL s.th.tasks with
  | none => exact h.setT h.th
  | some q => exact h.setT (fun w hw => h.th w (mem_cut hw))
theorem IOK.stmt (h : IOK s) {n e : Nat} : IOK (istmt G n e s) := by
  unfold istmt
  refine IOK.ite (fun _ => IOK.ite (fun _ => (h.doT _ _ _ _).doT _ _ _ _) (fun _ => (h.doT _ _ _ _).push (VV.nil _ _ _))) (fun _ => ?_)
  refine IOK.ite (fun _ => (h.doT _ _ _ _).call) (fun _ => ?_)
  refine IOK.ite (fun _ => ((h.new (VV.nil _ _ _)).doT _ _ _ _).doT _ _ _ _) (fun _ => ?_)
  have h1 : IOK (ido 1 (nd G n).Nx 0 e s) := h.doT _ _ _ _
  refine IOK.ite (fun _ => IOK.ite (fun _ => (h1.doT _ _ _ _).doT _ _ _ _) (fun _ => (((h1.doT _ _ _ _).doT _ _ _ _).doT _ _ _ _).doT _ _ _ _)) (fun _ => ?_)
  refine IOK.ite (fun _ => (h1.doT _ _ _ _).doT _ _ _ _) (fun _ => ?_)
  refine IOK.ite (fun _ => (h1.doT _ _ _ _).doT _ _ _ _) (fun _ => ?_)
  refine IOK.ite (fun _ => (h1.doT _ _ _ _).doT _ _ _ _) (fun _ => ?_)
  refine IOK.ite (fun _ => ((((h1.doT _ _ _ _).doT _ _ _ _).doT _ _ _ _).doT _ _ _ _).doT _ _ _ _) (fun _ => ?_)
  refine IOK.ite (fun _ => ((h1.doT _ _ _ _).doT _ _ _ _).doT _ _ _ _) (fun _ => ?_)
  refine IOK.ite (fun _ => ((h1.doT _ _ _ _).doT _ _ _ _).doT _ _ _ _) (fun _ => ?_)
  exact IOK.ite (fun _ => h1.brkC) (fun _ => h1)
theorem IOK.eval (hA : AOK G) (h : IOK s) {n z e : Nat} : IOK (ieval G n z e s) := by
  unfold ieval
  refine IOK.ite (fun _ => IOK.ite (fun _ => h.push (VV.num _ _ _ (fInt_lt _) (fun q => fInt_nan q))) (fun _ => h.push (VV.nil _ _ _))) (fun _ => ?_)
  refine IOK.ite (fun _ => h.push (VV.nil _ _ _)) (fun _ => ?_)
  refine IOK.ite (fun _ => h.push (VV.bool _ _ _ _)) (fun _ => ?_)
  refine IOK.ite (fun _ => h.push (VV.bool _ _ _ _)) (fun _ => ?_)
  refine IOK.ite (fun _ => h.push (VV.num _ _ _ (hA n).1 (hA n).2.2)) (fun _ => ?_)
  refine IOK.ite (fun _ => h.push (VV.str _ _ _ (hA n).2.1)) (fun _ => ?_)
  refine IOK.ite (fun _ => IOK.ite (fun _ => h.push (h.var _)) (fun _ => h.push (tGet_ok (h.tabD 0).2))) (fun _ => ?_)
  refine IOK.ite (fun _ => ((h.doT _ _ _ _).doT _ _ _ _).doT _ _ _ _) (fun _ => ?_)
  refine IOK.ite (fun _ => (h.doT _ _ _ _).call) (fun _ => ?_)
  refine IOK.ite (fun _ => IOK.ite (fun _ => h.fin _ _) (fun q => (h.newC (by omega)).push (VV.fn (by simp) (by have := h.nc; omega)))) (fun _ => ?_)
  refine IOK.ite (fun _ => IOK.ite (fun _ => h.fin _ _) (fun q => ((h.newTab (by omega)).push (VV.tab (by simp) (by have := h.nh; omega))).items _ _ _)) (fun _ => ?_)
  refine IOK.ite (fun _ => ((h.doT _ _ _ _).doT _ _ _ _).doT _ _ _ _) (fun _ => ?_)
  refine IOK.ite (fun _ => (h.doT _ _ _ _).doT _ _ _ _) (fun _ => ?_)
  refine IOK.ite (fun _ => (h.doT _ _ _ _).doT _ _ _ _) (fun _ => ?_)
  exact IOK.ite (fun _ => (h.doT _ _ _ _).doT _ _ _ _) (fun _ => h)
theorem IOK.getD {zs : List PV} (hz : ∀ v ∈ zs, ok s v) (n : Nat) : ok s (zs.getD n vNil) := by
  rw [List.getD_eq_getElem?_getD]
  cases hq : zs[n]? with
  | none => exact VV.nil _ _ _
  | some w => exact hz w (List.mem_of_getElem? hq)
theorem IOK.apply1 (h : IOK s) {zs : List PV} {fn : PV} (hz : ∀ v ∈ zs, ok s v) : IOK (iapply1 G root zs fn s) := by
  have h0 : ok s (zs.getD 0 vNil) := IOK.getD hz 0
  have h1 : ok s (zs.getD 1 vNil) := IOK.getD hz 1
  have hb : ∀ v ∈ [zs.getD 1 vNil], ok s v := fun v hv => by rw [List.mem_singleton] at hv; subst hv; exact h1
  have hnum : ok s (if (zs.getD 0 vNil).T = 2 then zs.getD 0 vNil else if (zs.getD 0 vNil).T = 3 then (match parN (zs.getD 0 vNil).S with | some x => vNum x | none => vNil) else vNil) := by
    by_cases c1 : (zs.getD 0 vNil).T = 2
    · rw [if_pos c1]; exact h0
    · rw [if_neg c1]
      by_cases c2 : (zs.getD 0 vNil).T = 3
      · rw [if_pos c2]
        cases hp : parN (zs.getD 0 vNil).S with
        | none => exact VV.nil _ _ _
        | some z => exact VV.num _ _ _ (parN_ok hp).1 (parN_ok hp).2
      · rw [if_neg c2]; exact VV.nil _ _ _
  have hS := ((h.st 3).cs (zs.getD 0 vNil).N (s.cur :: s.stack)).st 4
  have hS1 : ok (({ s.setT { s.th with st := 3 } with stack := s.cur :: s.stack, cur := (zs.getD 0 vNil).N } : IS).setT { ({ s.setT { s.th with st := 3 } with stack := s.cur :: s.stack, cur := (zs.getD 0 vNil).N } : IS).th with st := 4 }) (zs.getD 1 vNil) := (ok_setT (s := { s.setT { s.th with st := 3 } with stack := s.cur :: s.stack, cur := (zs.getD 0 vNil).N }) _).2 ((ok_setT _).2 h1)
  unfold iapply1
  refine IOK.ite (fun _ => IOK.ite (fun _ => h.raise (by decide)) (fun _ => h.enter hz)) (fun _ => ?_)
  refine IOK.ite (fun _ => h.raise (by decide)) (fun _ => ?_)
  refine IOK.ite (fun _ => IOK.ite (fun _ => h.fin _ _) (fun _ => (h.flds s.fuel s.first _).push2 (VV.nil _ _ _) (VV.nil _ _ _))) (fun _ => ?_)
  refine IOK.ite (fun _ => h.push2 (VV.str _ _ _ (txV_len h0)) (VV.nil _ _ _)) (fun _ => ?_)
  refine IOK.ite (fun _ => h.push2 hnum (VV.nil _ _ _)) (fun _ => ?_)
  refine IOK.ite (fun _ => h.push2 (VV.str _ _ _ (Nat.le_trans (tyName_len _) (by decide))) (VV.nil _ _ _)) (fun _ => ?_)
  refine IOK.ite (fun _ => h.throw h0) (fun _ => ?_)
  refine IOK.ite (fun _ => IOK.ite (fun _ => h.push2 (VV.bool _ _ _ _) (VV.str _ _ _ (by decide))) (fun _ => IOK.ite (fun _ => h.push2 (VV.bool _ _ _ _) (VV.str _ _ _ (by decide))) (fun _ => h.enter hb))) (fun _ => ?_)
  refine IOK.ite (fun _ => IOK.ite (fun _ => h.raise (by decide)) (fun _ => ?_)) (fun _ => ?_)
  · cases hn : tNext (s.tabs.getD (zs.getD 0 vNil).N []) (zs.getD 1 vNil) with
    | none => exact h.raise (by decide)
    | some kv =>
      obtain ⟨k, v⟩ := kv
      obtain ⟨q1, q2⟩ := tNext_ok (h.tabD _).2 hn
      exact h.push2 q1 q2
  refine IOK.ite (fun _ => IOK.ite (fun _ => h.raise (by decide)) (fun _ => IOK.ite (fun _ => h.fin _ _) (fun q => (h.newT (by omega)).push2 (VV.coV (by simp) (by have := h.nt; omega)) (VV.nil _ _ _)))) (fun _ => ?_)
  refine IOK.ite (fun _ => IOK.ite (fun _ => h.raise (by decide)) (fun _ => IOK.ite (fun _ => h.push2 (VV.bool _ _ _ _) (VV.str _ _ _ (Nat.le_trans (stName_len _) (by decide)))) (fun _ => ?_))) (fun _ => ?_)
  · unfold iresume
    refine IOK.ite (fun _ => IOK.enter (hS.flds s.fuel (s.first + 1) s.out) (fun v hv => ?_)) (fun _ => hS.push2 hS1 (VV.nil _ _ _))
    rw [List.mem_singleton] at hv; subst hv
    exact hS1
  refine IOK.ite (fun _ => IOK.ite (fun _ => h.raise (by decide)) (fun _ => ?_)) (fun _ => ?_)
  · show IOK (match s.stack with | [] => s.setT { s.th with st := 2 } | c :: r => ipush (zs.getD 0 vNil) (ipush (vBool true) (({ s.setT { s.th with st := 2 } with stack := r, cur := c } : IS).setT { ({ s.setT { s.th with st := 2 } with stack := r, cur := c } : IS).th with st := 4 })))
    cases s.stack with
    | nil => exact h.st 2
    | cons c r =>
      have hS := ((h.st 2).cs c r).st 4
      exact hS.push2 (VV.bool _ _ _ _) ((ok_setT (s := { s.setT { s.th with st := 2 } with stack := r, cur := c }) _).2 ((ok_setT _).2 h0))
  exact IOK.ite (fun _ => IOK.ite (fun _ => h.raise (by decide)) (fun _ => h.push2 (VV.str _ _ _ (Nat.le_trans (stName_len _) (by decide))) (VV.nil _ _ _))) (fun _ => h.push2 (VV.nil _ _ _) (VV.nil _ _ _))
theorem IOK.apply (h : IOK s) {z : Nat} : IOK (iapply G root z s) := by
  unfold iapply
  refine IOK.ite (fun _ => h.fin _ _) (fun _ => ?_)
  refine ((h.flds (s.fuel - 1) s.first s.out).drop (z + 1)).apply1 (fun v hv => ?_)
  exact (ok_drop (s := { s with fuel := s.fuel - 1 }) _).2 (h.th v (List.mem_of_mem_take (List.mem_reverse.1 hv)))
end

end Go.Proofs.Qxb6500568aGreatDoor
