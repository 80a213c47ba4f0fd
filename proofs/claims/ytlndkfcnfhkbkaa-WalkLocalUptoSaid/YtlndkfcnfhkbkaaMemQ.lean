/- Memories: plain facts. No condition beyond lengths. -/
import Derived.Test.YtlndkfcnfhkbkaaMemF
namespace Go.Proofs.Ytlndkfcnfhkbkaa
open Go.RowKit Sx
set_option linter.unusedVariables false
set_option linter.unusedSimpArgs false
set_option maxRecDepth 100000
set_option maxHeartbeats 8000000
theorem wfR (n : Nat) : ∀ p ∈ List.replicate n (List.replicate 1024 (0 : Int)), p.length = 1024 := fun p hp => by
  rw [List.eq_of_mem_replicate hp]; simp
theorem setP_len (on : Bool) (k : Int) (xs : List Int) (ps : List (List Int)) : (setP on k xs ps).length = ps.length := by
  unfold setP; split <;> simp
theorem setP_no (k : Int) (xs : List Int) (ps : List (List Int)) : setP false k xs ps = ps := rfl
theorem setP_wf {on : Bool} {k : Int} {xs : List Int} {ps : List (List Int)} (h : ∀ p ∈ ps, p.length = 1024) (hx : on = true → xs.length = 1024) : ∀ p ∈ setP on k xs ps, p.length = 1024 := by
  unfold setP
  split
  · rename_i ho
    intro p hp
    rcases List.mem_or_eq_of_mem_set hp with h1 | h1
    · exact h p h1
    · rw [h1]; exact hx ho
  · exact h
theorem mod4 (n : Int) : (n.tmod 4 + 4).tmod 4 = n % 4 ∧ 0 ≤ n.tmod 4 + 4 ∧ n.tmod 4 < 4 := by
  have h1 : n.tmod 4 = n % 4 ∨ n.tmod 4 = n % 4 - 4 := by
    by_cases hn : 0 ≤ n
    · exact .inl (Int.tmod_eq_emod_of_nonneg hn)
    · rw [Int.tmod_eq_emod]; simp only [show (4 : Int).natAbs = 4 from rfl]; split <;> omega
  obtain ⟨y, hy⟩ : ∃ y, y = n.tmod 4 := ⟨_, rfl⟩
  rw [← hy] at h1 ⊢
  have hx : 0 ≤ y + 4 := by omega
  rw [Int.tmod_eq_emod_of_nonneg hx]
  refine ⟨?_, ?_, ?_⟩
  · rcases h1 with rfl | rfl <;> omega
  · omega
  · omega
def ml (l m : List Nat) : Nat → Option Bool := fun q => bif l.any (Nat.beq q) then some true else bif m.any (Nat.beq q) then some false else none
theorem h4 : True := trivial
def Z0 : List Int := List.replicate 1024 (0 : Int)
def Q0 : List (List Int) := [Z0, Z0]
def Q1 : List (List Int) := [Z0.set 3 9, Z0]
theorem q0 : [List.replicate 1024 (0 : Int), List.replicate 1024 (0 : Int)] = Q0 := rfl
theorem l0 : Q0.length = 2 := rfl
theorem l1 : Q1.length = 2 := rfl
theorem z0 : Z0.length = 1024 := by simp [Z0]
theorem w0 : ∀ p ∈ Q0, p.length = 1024 := fun p hp => by simp only [Q0, List.mem_cons, List.not_mem_nil, or_false] at hp; rcases hp with rfl | rfl <;> exact z0
theorem w1 : ∀ p ∈ Q1, p.length = 1024 := fun p hp => by simp only [Q1, List.mem_cons, List.not_mem_nil, or_false] at hp; rcases hp with rfl | rfl <;> simp [z0]
theorem o0 : okW true 0 3 Q0 Q0 = true := rfl
theorem e0 : errW true 0 3 Q0 Q0 = 0 := rfl
theorem p0 : setP true 0 ((pgAt true 0 Q0 Q0).set 3 9) Q0 = Q1 := rfl
theorem r1 : rdW true 0 3 Q1 Q0 = 9 := by unfold rdW; rw [if_pos (by rfl)]; show (Z0.set 3 9).getD 3 0 = 9; simp [Z0]
theorem has_no {t : Bool} {k : Int} (h : k < 0 ∨ 2 ≤ k) : hasP t k Q1 Q0 = false := by
  unfold hasP; cases t <;> simp [l0, l1] <;> omega
theorem has_yes {t : Bool} {k : Int} (h : 0 ≤ k ∧ k < 2) : hasP t k Q1 Q0 = true := by
  unfold hasP; cases t <;> simp [l0, l1] <;> omega
noncomputable def pt_mi : List (Nat × (List SV → Option (List Prop × SV))) := []
theorem pt_mi_ok : PureOK Try.prog (fun f => List.lookup f pt_mi) := pure_list pt_mi trivial
noncomputable abbrev cx_mi (must : Nat → Option Bool := fun _ => none) (loop : Nat → SS → Option LoopSpec := fun _ _ => none) : Ctx := ⟨tab, inl tab (fun f => List.lookup f pt_mi) fns (fun _ => {}) 1000 4, fun f => List.lookup f pt_mi, must, loop, 0, 0, fun _ => none⟩
theorem cx_mi_ok (must : Nat → Option Bool) (loop : Nat → SS → Option LoopSpec) : CxOK Try.prog (cx_mi must loop) := inl_ok mixed tab_ok pt_mi_ok fns_ok 4 _ _ _ _
end Go.Proofs.Ytlndkfcnfhkbkaa
