import Derived.Test.Qxb6500568aGreatDoorOa
namespace Go.Proofs.Qxb6500568aGreatDoor
open Ieee
set_option linter.unusedVariables false
set_option linter.unusedSimpArgs false
set_option linter.unusedSectionVars false

/-! A step keeps the values valid. -/

section
variable {Ps : List Proto} {a : AS} {v : PV}

theorem PK.con (h : PK Ps) (j x : Nat) : ∀ c t n, VV c t n ((Ps.getD j Proto.zero).ks.getD x vNil) := fun c t n => by
  rw [List.getD_eq_getElem?_getD (l := Ps)]
  rcases hq : Ps[j]? with _ | p
  · exact VV.nil _ _ _
  · exact getD_ok (P := VV c t n) (fun v hv => (h p (List.mem_of_getElem? hq) v hv).vv c t n) (VV.nil _ _ _) x
theorem AV.resume (h : AV a) {u : PV} (hv : aok a v) : AV (aresume Ps u v a) := by
  unfold aresume
  have h1 := h.st 3
  have h2 := h1.cs u.N ((a.setT { a.th with st := 3 }).cur :: (a.setT { a.th with st := 3 }).stack)
  have h3 := h2.st 4
  refine AV.ite (fun _ => ?_) fun _ => ?_
  · refine (h3.first _).enter fun w hw => ?_
    rw [List.mem_singleton.1 hw]
    exact (aok_setT (a := { a.setT { a.th with st := 3 } with stack := (a.setT { a.th with st := 3 }).cur :: (a.setT { a.th with st := 3 }).stack, cur := u.N }) _).2 ((aok_setT _).2 hv)
  · exact h3.push2 ((aok_setT _).2 ((aok_setT _).2 hv)) (VV.nil _ _ _)
theorem AV.call1 (h : AV a) {zs : List PV} {fn : PV} (hz : ∀ v ∈ zs, aok a v) : AV (acall1 Ps zs fn a) := by
  have ha : ∀ n, aok a (zs.getD n vNil) := fun n => getD_ok hz .nil n
  have h40 : ∀ {m : Str}, m.length ≤ 40 → aok a (vStr m) := fun hm => VV.str _ _ _ hm
  unfold acall1
  dsimp only
  refine AV.ite (fun _ => AV.ite (fun _ => h.raise (by decide)) fun _ => h.enter hz) fun _ => AV.ite (fun _ => h.raise (by decide)) fun _ => AV.ite (fun _ => AV.ite (fun _ => h.fin _ _) fun ho => ?_) fun _ =>
    AV.ite (fun _ => h.push2 (h40 (txV_len (ha 0))) .nil) fun _ => AV.ite (fun _ => h.push2 ?_ .nil) fun _ => AV.ite (fun _ => h.push2 (h40 ?_) .nil) fun _ => AV.ite (fun _ => h.throw (ha 0)) fun _ =>
    AV.ite (fun _ => AV.ite (fun _ => h.push2 (VV.bool _ _ _ _) (h40 (by decide))) fun _ => AV.ite (fun _ => h.push2 (VV.bool _ _ _ _) (h40 (by decide))) fun _ => h.enter fun w hw => by rw [List.mem_singleton.1 hw]; exact ha 1) fun _ =>
    AV.ite (fun _ => AV.ite (fun _ => h.raise (by decide)) fun _ => ?_) fun _ => AV.ite (fun _ => AV.ite (fun _ => h.raise (by decide)) fun _ => AV.ite (fun _ => h.fin _ _) fun h5 => ?_) fun _ =>
    AV.ite (fun _ => AV.ite (fun _ => h.raise (by decide)) fun _ => AV.ite (fun _ => h.push2 (VV.bool _ _ _ _) (h40 ?_)) fun _ => h.resume (ha 1)) fun _ =>
    AV.ite (fun _ => AV.ite (fun _ => h.raise (by decide)) fun _ => ?_) fun _ => AV.ite (fun _ => AV.ite (fun _ => h.raise (by decide)) fun _ => h.push2 (h40 ?_) .nil) fun _ => h.raise (by decide)
  · refine AV.push2 (h.outp ?_) (VV.nil _ _ _) (VV.nil _ _ _)
    simp only [List.length_append, List.length_cons, List.length_nil]
    omega
  · split
    · exact ha 0
    · split
      · split
        · rename_i x hx
          exact VV.num _ _ _ (parN_ok hx).1 (parN_ok hx).2
        · exact .nil
      · exact .nil
  · have := tyName_len (zs.getD 0 vNil); omega
  · split
    · exact h.raise (by decide)
    · rename_i k w hkw
      have := tNext_ok (h.tabD (zs.getD 0 vNil).N).2 hkw
      exact h.push2 this.1 this.2
  · have h5 : a.ths.length < 5 := by omega
    refine AV.push2 (h.newT h5) (VV.coV (by show a.ths.length < (a.ths ++ [_]).length; simp) (by omega)) (VV.nil _ _ _)
  · have := stName_len (a.ths.getD (zs.getD 0 vNil).N ATh.zero).st; omega
  · have h1 := h.st 2
    rcases (a.setT { a.th with st := 2 }).stack with _ | ⟨c, r⟩
    · exact h1
    · exact ((h1.cs c r).st 4).push2 (VV.bool _ _ _ _) ((aok_setT _).2 ((aok_setT (a := a) _).2 (ha 0)))
  · have := stName_len (a.ths.getD (zs.getD 0 vNil).N ATh.zero).st; omega
theorem AV.call (h : AV a) (x : Nat) : AV (acall Ps x a) := by
  unfold acall
  refine AV.ite (fun _ => h.fin _ _) fun _ => ?_
  have h1 := (h.fuel (a.fuel - 1)).ops' (l := a.fr.ops.drop (x + 1)) (fun v hv => h.frM v (List.mem_of_mem_drop hv))
  refine (h1.pc (a.fr.pc + 1)).call1 fun w hw => ?_
  have hw := List.mem_reverse.1 hw
  exact (aok_setF _).2 ((aok_ops _).2 (h.frM w (List.mem_of_mem_take hw)))
theorem AV.jump (h : AV a) (x : Nat) : AV (ajump x a) := by
  unfold ajump
  exact AV.ite (fun _ => AV.ite (fun _ => h.fin _ _) fun _ => (h.fuel _).pc x) fun _ => h.pc x
theorem AV.nx (h : AV a) {l : List PV} (hl : ∀ v ∈ l, aok a v) (s : AS) : AV (apc (s.fr.pc + 1) (aops l a)) := (h.ops' hl).pc _
theorem AV.stt (h : AV a) {t k w : PV} {l : List PV} (hk : aok a k) (hw : aok a w) (hl : ∀ v ∈ l, aok a v) :
    AV (if t.T ≠ 4 then araise mIndex a else if (tSet (a.tabs.getD t.N []) k w).1 = 8 then afin 8 [45] a else if (tSet (a.tabs.getD t.N []) k w).1 ≠ 0 then araise mKey a else
      apc (a.fr.pc + 1) (aops l { a with tabs := a.tabs.set t.N (tSet (a.tabs.getD t.N []) k w).2 })) := by
  refine AV.ite (fun _ => h.raise (by decide)) fun _ => AV.ite (fun _ => h.fin _ _) fun _ => AV.ite (fun _ => h.raise (by decide)) fun _ => ?_
  have h1 := h.setTab t.N (tSet_ok (h.tabD t.N).1 (h.tabD t.N).2 hk hw)
  refine (h1.ops' fun v hv => ?_).pc _
  have := hl v hv
  unfold aok at this ⊢
  simpa using this
theorem AV.rss (h : AV a) {r : Res} {l : List PV} (hr : ∀ u, r = .ok u → aok a u) (hm : ∀ m, r = .error m → m.length ≤ 40) (hl : ∀ v ∈ l, aok a v) :
    AV (match (generalizing := false) r with | .ok v => apc (a.fr.pc + 1) (aops (v :: l) a) | .error m => araise m a) := by
  rcases r with m | u
  · exact h.raise (hm m rfl)
  · refine (h.ops' fun v hv => ?_).pc _
    rcases List.mem_cons.1 hv with rfl | hv
    · exact hr _ rfl
    · exact hl v hv
theorem AV.plain (hP : PK Ps) (h : AV a) (op x : Nat) : AV (aplain Ps op x a) := by
  have ht : ∀ v ∈ a.fr.ops.tail, aok a v := fun v hv => h.frM v (List.mem_of_mem_tail hv)
  have hd : ∀ n, ∀ v ∈ a.fr.ops.drop n, aok a v := fun n v hv => h.frM v (List.mem_of_mem_drop hv)
  have hc : ∀ {u : PV}, aok a u → ∀ v ∈ u :: a.fr.ops, aok a v := fun hu v hv => by
    rcases List.mem_cons.1 hv with rfl | hv
    · exact hu
    · exact h.frM v hv
  have nx : ∀ {u : PV}, aok a u → AV (apc (a.fr.pc + 1) (aops (u :: a.fr.ops) a)) := fun hu => (h.ops' (hc hu)).pc _
  unfold aplain
  dsimp only
  refine AV.ite (fun _ => nx (hP.con _ _ _ _ _)) fun _ => AV.ite (fun _ => nx .nil) fun _ => AV.ite (fun _ => nx (VV.bool _ _ _ _)) fun _ => AV.ite (fun _ => nx (VV.bool _ _ _ _)) fun _ => AV.ite (fun _ => nx (h.varD _)) fun _ =>
    AV.ite (fun _ => ?_) fun _ => AV.ite (fun _ => nx (h.varD _)) fun _ => AV.ite (fun _ => ?_) fun _ => AV.ite (fun _ => nx (tGet_ok (h.tabD 0).2)) fun _ => AV.ite (fun _ => h.stt (t := vTab 0) (hP.con _ _ _ _ _) (h.opD 0) ht) fun _ =>
    AV.ite (fun _ => AV.ite (fun _ => h.raise (by decide)) fun _ => ?_) fun _ => AV.ite (fun _ => h.stt (h.opD 1) (h.opD 0) (hd 3)) fun _ => AV.ite (fun _ => h.stt (VV.num _ _ _ (fInt_lt _) (fun q => fInt_nan q)) (h.opD 0) ht) fun _ =>
    AV.ite (fun _ => AV.ite (fun _ => h.fin _ _) fun h12 => ?_) fun _ => AV.ite (fun _ => h.rss (fun u hu => binV_ok (h.opD 1) (h.opD 0) hu) (fun m hm => binV_err hm) (hd 2)) fun _ => AV.ite (fun _ => h.rss (fun u hu => binV_ok (h.opD 1) (h.opD 0) hu) (fun m hm => binV_err hm) (hd 2)) fun _ =>
    AV.ite (fun _ => h.rss (fun u hu => binV_ok (h.opD 1) (h.opD 0) hu) (fun m hm => binV_err hm) (hd 2)) fun _ => AV.ite (fun _ => h.rss (r := unV a.tabs 2 (a.fr.ops.getD 0 vNil)) (fun u hu => unV_ok (h.opD 0) hu) (fun m hm => unV_err hm) ht) fun _ => AV.ite (fun _ => h.rss (r := unV a.tabs 1 (a.fr.ops.getD 0 vNil)) (fun u hu => unV_ok (h.opD 0) hu) (fun m hm => unV_err hm) ht) fun _ =>
    AV.ite (fun _ => h.rss (r := unV a.tabs 3 (a.fr.ops.getD 0 vNil)) (fun u hu => unV_ok (h.opD 0) hu) (fun m hm => unV_err hm) ht) fun _ => AV.ite (fun _ => (h.ops' ht).pc _) fun _ => AV.ite (fun _ => AV.ite (fun _ => h.fin _ _) fun h24 => ?_) fun _ =>
    AV.ite (fun _ => ?_) fun _ => AV.ite (fun _ => AV.ite (fun _ => AV.ite (fun _ => h.raise (by decide)) fun _ => (h.ops' h.frM).pc _) fun _ => h.raise (by decide)) fun _ => AV.ite (fun _ => nx (VV.bool _ _ _ _)) fun _ =>
    AV.ite (fun _ => AV.ite (fun _ => h.raise (by decide)) fun _ => ?_) fun _ => h
  · exact ((h.set _ (h.opD 0)).ops' ht).pc _
  · exact ((h.set _ (h.opD 0)).ops' ht).pc _
  · refine (h.ops' fun v hv => ?_).pc _
    rcases List.mem_cons.1 hv with rfl | hv
    · exact tGet_ok (h.tabD _).2
    · exact hd 2 v hv
  · have h12 : a.tabs.length < 12 := by omega
    refine ((h.newTab h12).ops' fun v hv => ?_).pc _
    rcases List.mem_cons.1 hv with rfl | hv
    · exact VV.tab (by show a.tabs.length < (a.tabs ++ [[]]).length; simp) (by omega)
    · exact VV.mono (h.frM v hv) (Nat.le_refl _) (Nat.le_refl _) (by show _ ≤ (a.tabs ++ [[]]).length; simp)
  · have h24 : a.clos.length < 24 := by omega
    refine ((h.newC h24).ops' fun v hv => ?_).pc _
    rcases List.mem_cons.1 hv with rfl | hv
    · exact VV.fn (by show a.clos.length < (a.clos ++ [_]).length; simp) (by omega)
    · exact VV.mono (h.frM v hv) (by show _ ≤ (a.clos ++ [_]).length; simp) (Nat.le_refl _) (Nat.le_refl _)
  · have hcl := h.close x
    refine (hcl.ops' fun v hv => ?_).pc _
    have := h.frM v hv
    unfold aclose
    exact (aok_setF _).2 this
  · split
    · exact h.raise (by decide)
    · rename_i k w hkw
      have hn := tNext_ok (h.tabD _).2 hkw
      have h1 := ((h.set (a.slot (x + 1)) hn.1).set (a.slot (x + 2)) hn.1).set (a.slot (x + 3)) hn.2
      refine (h1.ops' fun v hv => ?_).pc _
      rcases List.mem_cons.1 hv with rfl | hv
      · exact VV.bool _ _ _ _
      · exact h.frM v hv
theorem AV.step (hP : PK Ps) (h : AV a) : AV (astep Ps a) := by
  have ht : ∀ v ∈ a.fr.ops.tail, aok a v := fun v hv => h.frM v (List.mem_of_mem_tail hv)
  unfold astep
  dsimp only
  rcases (Ps.getD (a.clos.getD a.fr.clo (0, [])).1 Proto.zero).code[a.fr.pc]? with _ | ⟨op, x⟩
  · exact h
  · dsimp only
    refine AV.ite (fun _ => h.jump x) fun _ => AV.ite (fun _ => AV.ite (fun _ => (h.ops' ht).pc _) fun _ => (h.ops' ht).jump x) fun _ => AV.ite (fun _ => AV.ite (fun _ => h.jump x) fun _ => (h.ops' ht).pc _) fun _ =>
      AV.ite (fun _ => h.call x) fun _ => AV.ite (fun _ => h.ret (h.opD 1) (h.opD 0)) fun _ => h.plain hP op x
end

end Go.Proofs.Qxb6500568aGreatDoor
