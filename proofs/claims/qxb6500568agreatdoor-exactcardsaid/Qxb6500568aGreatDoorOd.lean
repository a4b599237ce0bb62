import Derived.Test.Qxb6500568aGreatDoorOc
namespace Go.Proofs.Qxb6500568aGreatDoor
open Ieee
set_option linter.unusedVariables false
set_option linter.unusedSimpArgs false
set_option linter.unusedSectionVars false

/-! A sound step keeps the threads' shape. -/

section
variable {Ps : List Proto} {a : AS} {v : PV}

theorem AT.ite {c : Prop} [Decidable c] {x y : AS} (hx : c → AT Ps x) (hy : ¬ c → AT Ps y) : AT Ps (if c then x else y) := by
  by_cases h : c
  · rw [if_pos h]; exact hx h
  · rw [if_neg h]; exact hy h
theorem AT.die (h : AT Ps a) (hd : a.done = false) (b : Bool) (v : PV) : AT Ps (aback b v (a.setT { a.th with frs := [], st := 5 })) := by
  unfold aback
  rcases hs : (a.setT { a.th with frs := [], st := 5 }).stack with _ | ⟨c, r⟩
  · refine ⟨h.cl, fun u hu f hf => ?_, fun u hu h3 => ?_, (fun q => by cases q)⟩
    · rcases List.mem_or_eq_of_mem_set hu with hu | rfl
      · exact h.fr u hu f hf
      · cases hf
    · rcases List.mem_or_eq_of_mem_set hu with hu | rfl
      · exact h.fn u hu h3
      · cases h3
  · exact (h.down hd (t := { a.th with frs := [], st := 5 }) (b := { a.setT { a.th with frs := [], st := 5 } with stack := r, cur := c }) hs (fun f hf => by cases hf) (.inl rfl) rfl rfl rfl rfl hd).push2 _ _
theorem unwL_ne : ∀ {l r : List AFr}, unwL l = some r → r ≠ []
  | [], r, h => by simp [unwL] at h
  | g :: l, r, h => by
    unfold unwL at h
    by_cases hp : g.prot = true ∧ l ≠ []
    · rw [if_pos hp] at h; injection h with h; subst h; exact hp.2
    · rw [if_neg hp] at h; exact unwL_ne h
theorem AT.throw (h : AT Ps a) (hd : a.done = false) (v : PV) : AT Ps (athrow v a) := by
  unfold athrow
  rcases hq : unwL a.th.frs with _ | r
  · exact h.die hd _ _
  · exact (h.setT (t := { a.th with frs := r }) (fun f hf => h.thM f (unwL_mem hq f hf)) ⟨rfl, rfl⟩ (fun _ => unwL_ne hq)).push2 _ _
theorem AT.raise (h : AT Ps a) (hd : a.done = false) (m : Str) : AT Ps (araise m a) := h.throw hd _
theorem AT.ret (h : AT Ps a) (hd : a.done = false) (u v : PV) : AT Ps (aret u v a) := by
  unfold aret
  rcases hq : a.th.frs with _ | ⟨f, r⟩
  · exact h
  · have hr : ∀ g ∈ r, g.clo < a.clos.length := fun g hg => h.thM g (by rw [hq]; exact List.mem_cons_of_mem _ hg)
    show AT Ps (if r = [] then _ else if f.prot = true then _ else _)
    refine AT.ite (fun _ => h.die hd _ _) fun hr0 => AT.ite (fun _ => ?_) fun _ => ?_
    · exact (h.setT (t := { a.th with frs := r }) hr ⟨rfl, rfl⟩ (fun _ => hr0)).push2 _ _
    · exact (h.setT (t := { a.th with frs := r }) hr ⟨rfl, rfl⟩ (fun _ => hr0)).push2 _ _
theorem AT.new (h : AT Ps a) (vs : List PV) : AT Ps (anew vs a).2 := h.same rfl rfl rfl rfl rfl
/-- the frame that a call makes. -/
def enF (Ps : List Proto) (c : Nat) (zs : List PV) (b : Bool) (s : AS) : AFr := ⟨c, 0, (anew (padTo (Ps.getD (s.clos.getD c (0, [])).1 Proto.zero).ns (zs.take (Ps.getD (s.clos.getD c (0, [])).1 Proto.zero).np)) s).1, [], b⟩
theorem AT.enter (h : AT Ps a) {c : Nat} {zs : List PV} {b : Bool} (hc : c < a.clos.length) : AT Ps (aenter Ps c zs b a) := by
  unfold aenter
  refine (h.new _).setT (fun f hf => ?_) ⟨rfl, rfl⟩ (fun _ => by simp)
  rcases List.mem_cons.1 hf with rfl | hf
  · exact hc
  · exact (h.new _).thM f hf
theorem AT.close (h : AT Ps a) (hd : a.done = false) (x : Nat) : AT Ps (aclose x a) := by
  unfold aclose
  exact (h.new _).setF hd rfl
/-- another thread is resumed. -/
theorem AT.up (h : AT Ps a) (hd : a.done = false) {n : Nat} {t : ATh} (hn : n < a.ths.length) (hs : (thA a.ths n).st = 1 ∨ (thA a.ths n).st = 2) (h4 : t.st = 4) (hne : t.frs ≠ []) (hf : ∀ f ∈ t.frs, f.clo < a.clos.length) {b : AS} (hbc : b.clos = a.clos)
    (hbt : b.ths = (a.ths.set a.cur { a.th with st := 3 }).set n t) (hb1 : b.cur = n) (hb2 : b.stack = a.cur :: a.stack) (hbd : b.done = false) : AT Ps b := by
  have T := h.tr hd
  have hnc : n ≠ a.cur := fun e => by rw [e, T.st] at hs; omega
  have e : ∀ k, thA b.ths k = if k = n then t else if k = a.cur then { a.th with st := 3 } else thA a.ths k := fun k => by
    rw [hbt, thA_set (by rw [List.length_set]; exact hn), thA_set T.lt]
  have hlen : b.ths.length = a.ths.length := by rw [hbt, List.length_set, List.length_set]
  have hns : n ∉ a.stack := fun q => by have := (T.sk n q).2.1; omega
  refine ⟨by rw [hbc]; exact h.cl, fun u hu f hf' => ?_, fun u hu h3 => ?_, fun _ => ?_⟩
  · rw [hbc]
    rw [hbt] at hu
    rcases List.mem_or_eq_of_mem_set hu with hu | rfl
    · rcases List.mem_or_eq_of_mem_set hu with hu | rfl
      · exact h.fr u hu f hf'
      · exact h.thM f hf'
    · exact hf f hf'
  · rw [hbc]
    rw [hbt] at hu
    rcases List.mem_or_eq_of_mem_set hu with hu | rfl
    · rcases List.mem_or_eq_of_mem_set hu with hu | rfl
      · exact h.fn u hu h3
      · cases h3
    · omega
  · rw [hb1, hb2]
    refine ⟨by rw [hlen]; exact hn, by rw [e, if_pos rfl]; exact h4, by rw [e, if_pos rfl]; exact hne, fun c hc => ?_, ?_, ?_, fun c => ?_⟩
    · rw [hlen, e]
      rcases List.mem_cons.1 hc with rfl | hc
      · rw [if_neg (fun q => hnc q.symm), if_pos rfl]
        exact ⟨T.lt, rfl, T.ne⟩
      · rw [if_neg (fun (q : c = n) => hns (q ▸ hc)), if_neg (fun (q : c = a.cur) => (List.nodup_cons.1 T.nd).1 (q ▸ hc))]
        exact T.sk c hc
    · rw [List.nodup_cons]
      exact ⟨fun q => by rcases List.mem_cons.1 q with q | q; exact hnc q; exact hns q, T.nd⟩
    · rw [List.getLast?_cons_cons]; exact T.bot
    · rw [e]
      by_cases h1 : c = n
      · rw [if_pos h1]; exact fun _ => hne
      · rw [if_neg h1]
        by_cases h2 : c = a.cur
        · rw [if_pos h2]; intro q; cases q
        · rw [if_neg h2]; exact T.y c
theorem AT.resume (h : AT Ps a) (hd : a.done = false) {u : PV} (hn : u.N < a.ths.length) (hs : (thA a.ths u.N).st = 1 ∨ (thA a.ths u.N).st = 2) : AT Ps (aresume Ps u v a) := by
  have T := h.tr hd
  have hnc : u.N ≠ a.cur := fun e => by rw [e, T.st] at hs; omega
  have hth : ∀ (s2 : AS), s2.ths = a.ths.set a.cur { a.th with st := 3 } → s2.cur = u.N → s2.th = thA a.ths u.N := fun s2 h1 h2 => by
    unfold AS.th
    rw [h1, h2]
    exact (thA_set T.lt u.N).trans (if_neg hnc)
  have hmem : thA a.ths u.N ∈ a.ths := by
    unfold thA
    rw [List.getD_eq_getElem?_getD, List.getElem?_eq_getElem hn]
    exact List.getElem_mem hn
  have hls : u.N < (a.ths.set a.cur { a.th with st := 3 }).length := by rw [List.length_set]; exact hn
  unfold aresume
  dsimp only
  have h3 : ({ a.setT { a.th with st := 3 } with stack := (a.setT { a.th with st := 3 }).cur :: (a.setT { a.th with st := 3 }).stack, cur := u.N } : AS).th = thA a.ths u.N := hth _ rfl rfl
  rw [h3]
  have h3' : ((({ a.setT { a.th with st := 3 } with stack := (a.setT { a.th with st := 3 }).cur :: (a.setT { a.th with st := 3 }).stack, cur := u.N } : AS).setT { thA a.ths u.N with st := 4 })).th = { thA a.ths u.N with st := 4 } := by
    show thA ((a.ths.set a.cur { a.th with st := 3 }).set u.N { thA a.ths u.N with st := 4 }) u.N = _
    rw [thA_set hls, if_pos rfl]
  refine AT.ite (fun h1 => ?_) fun h1 => ?_
  · have hS : ∀ S : AS, S.th = { thA a.ths u.N with st := 4 } → S.ths = (a.ths.set a.cur { a.th with st := 3 }).set u.N { thA a.ths u.N with st := 4 } → S.cur = u.N → S.stack = a.cur :: a.stack → S.done = false → S.clos = a.clos → AT Ps (aenter Ps (a.ths.getD u.N ATh.zero).fn [v] false S) := fun S s1 s2 s3 s4 s5 s6 => by
      refine h.up hd (n := u.N) (t := { S.th with frs := enF Ps (a.ths.getD u.N ATh.zero).fn [v] false S :: S.th.frs }) hn hs (by rw [s1]) (List.cons_ne_nil _ _) (fun f hf => ?_) s6 ?_ s3 s4 s5
      · rcases List.mem_cons.1 hf with rfl | hf
        · exact h.fn _ hmem h1
        · rw [s1] at hf; exact h.fr _ hmem f hf
      · show S.ths.set S.cur { S.th with frs := enF Ps (a.ths.getD u.N ATh.zero).fn [v] false S :: S.th.frs } = _
        rw [s2, s3, List.set_set]
    exact hS _ h3' rfl rfl rfl hd rfl
  · have h2 : (thA a.ths u.N).st = 2 := by
      rcases hs with hs | hs
      · exact absurd hs h1
      · exact hs
    have hne := T.y _ h2
    unfold apush2
    rw [h3']
    rcases hq : (thA a.ths u.N).frs with _ | ⟨f0, r0⟩
    · exact absurd hq hne
    · refine h.up hd (n := u.N) (t := { st := 4, fn := (thA a.ths u.N).fn, frs := { f0 with ops := vNil :: v :: f0.ops } :: r0 }) hn hs rfl (by simp) (fun f hf => ?_) rfl ?_ rfl rfl hd
      · rcases List.mem_cons.1 hf with rfl | hf
        · exact h.fr _ hmem f0 (by rw [hq]; exact List.mem_cons_self)
        · exact h.fr _ hmem f (by rw [hq]; exact List.mem_cons_of_mem _ hf)
      · show ((a.ths.set a.cur { a.th with st := 3 }).set u.N { st := 4, fn := (thA a.ths u.N).fn, frs := f0 :: r0 }).set u.N _ = _
        rw [List.set_set]
end

end Go.Proofs.Qxb6500568aGreatDoor
