/- Memories: plain facts. No condition beyond lengths. -/
import Derived.Test.YtimjnajdpccjdaaDoorMemF
namespace Go.Proofs.YtimjnajdpccjdaaDoor
set_option linter.unusedVariables false
set_option linter.unusedSimpArgs false
open Go.RowKit Sx
set_option maxRecDepth 100000
set_option maxHeartbeats 8000000
theorem setP_len (on : Bool) (k : Int) (xs : List Int) (ps : List (List Int)) : (setP on k xs ps).length = ps.length := by
  unfold setP; split <;> simp
theorem h4 : True := trivial
def Z0 : List Int := List.replicate 1024 (0 : Int)
def Q0 : List (List Int) := [Z0, Z0]
def Q1 : List (List Int) := [Z0.set 3 9, Z0]
theorem q0 : [List.replicate 1024 (0 : Int), List.replicate 1024 (0 : Int)] = Q0 := rfl
theorem l0 : Q0.length = 2 := rfl
theorem l1 : Q1.length = 2 := rfl
theorem z0 : Z0.length = 1024 := by simp [Z0]
theorem w1 : ∀ p ∈ Q1, p.length = 1024 := fun p hp => by simp only [Q1, List.mem_cons, List.not_mem_nil, or_false] at hp; rcases hp with rfl | rfl <;> simp [z0]
theorem o0 : okW true 0 3 Q0 Q0 = true := rfl
theorem e0 : errW true 0 3 Q0 Q0 = 0 := rfl
theorem p0 : setP true 0 ((pgAt true 0 Q0 Q0).set 3 9) Q0 = Q1 := rfl
theorem r1 : rdW true 0 3 Q1 Q0 = 9 := by unfold rdW; rw [if_pos (by rfl)]; show (Z0.set 3 9).getD 3 0 = 9; simp [Z0]
end Go.Proofs.YtimjnajdpccjdaaDoor
