import Derived.Test.Qxb6500570aGreatPr
/- Plain: the worth of a node, kind by kind. -/
namespace Go.Proofs.Qxb6500570aGreat
set_option linter.unusedVariables false
set_option linter.unusedSimpArgs false
section
variable {n : List Nd} {env : Nat → Vl} {g fn : Nat} {i : Int}
theorem ev_k1 (h : (ndA n i).k = 1) : (evF n env (g + 1) fn i).1 = vI (ndA n i).n := by
  conv => lhs; unfold evF
  simp [h]
theorem ev_k2 (h : (ndA n i).k = 2) : (evF n env (g + 1) fn i).1 = ⟨3, (ndA n i).n, []⟩ := by
  conv => lhs; unfold evF
  simp [h]
theorem ev_k3 (h : (ndA n i).k = 3) : (evF n env (g + 1) fn i).1 = if gridR (ndA n i).p = true then env (cellR (ndA n i).p) else vE 2 := by
  conv => lhs; unfold evF
  simp [h]
theorem ev_k5 (h : (ndA n i).k = 5) : (evF n env (g + 1) fn i).1 = vE 2 := by
  conv => lhs; unfold evF
  simp [h]
theorem ev_k6 (h : (ndA n i).k = 6) : (evF n env (g + 1) fn i).1 = unV 0 (evF n env g 0 (ndA n i).a).1 := by
  conv => lhs; unfold evF
  simp [h]
theorem ev_k7 (h : (ndA n i).k = 7) : (evF n env (g + 1) fn i).1 = binV (ndA n i).o.toNat (evF n env g 0 (ndA n i).a).1 (evF n env g 0 (ndA n i).b).1 := by
  conv => lhs; unfold evF
  simp [h]
theorem ev_k8 (h : (ndA n i).k = 8) : (evF n env (g + 1) fn i).1 = (if (ndA n i).o = 5 then chV (evF n env g 0 (ndA n (ndA n (ndA n (ndA n i).a).b).b).a).1 (evF n env g 0 (ndA n (ndA n (ndA n i).a).b).a).1 (evF n env g 0 (ndA n (ndA n i).a).a).1
        else if tallF (ndA n i).o.toNat = true then shutT (ndA n i).o.toNat (evF n env g (ndA n i).o.toNat (ndA n i).a).2
        else unV (ndA n i).o.toNat (evF n env g 0 (ndA n (ndA n i).a).a).1) := by
  conv => lhs; unfold evF
  simp [h]
theorem ev_k9 (h : (ndA n i).k = 9) : (evF n env (g + 1) fn i).2 = (if (ndA n (ndA n i).a).k = 4 then (match blkR (ndA n (ndA n i).a).p (ndA n (ndA n i).a).q with
          | some m => sweepT fn m env 24 0 (if (ndA n i).b < 0 then tyZ else (evF n env g fn (ndA n i).b).2)
          | none => takeT fn (vE 2) true (if (ndA n i).b < 0 then tyZ else (evF n env g fn (ndA n i).b).2))
        else takeT fn (evF n env g 0 (ndA n i).a).1 false (if (ndA n i).b < 0 then tyZ else (evF n env g fn (ndA n i).b).2)) := by
  conv => lhs; unfold evF
  simp only [h, if_true]
  cases blkR (ndA n (ndA n i).a).p (ndA n (ndA n i).a).q <;> rfl
end
end Go.Proofs.Qxb6500570aGreat
