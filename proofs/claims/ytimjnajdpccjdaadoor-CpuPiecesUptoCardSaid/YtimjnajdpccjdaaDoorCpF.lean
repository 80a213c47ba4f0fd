/- Package cpu: runs are steps. No condition beyond the arguments' types. -/
import Derived.Test.YtimjnajdpccjdaaDoorCpM
namespace Go.Proofs.YtimjnajdpccjdaaDoor
open Go.RowKit Sx
set_option linter.unusedVariables false
set_option linter.unusedSimpArgs false
set_option maxRecDepth 100000
set_option maxHeartbeats 8000000
abbrev Mch := List (List Int) × List (List Int) × Int × List Int × Int × Bool × Bool × Bool
noncomputable def nxM (l1 : Int) (s : Mch) : Mch := (spP s.1 s.2.1 l1 s.2.2.2.1 s.2.2.2.2.1 s.2.2.2.2.2.1 s.2.2.2.2.2.2.1 s.2.2.2.2.2.2.2, spQ s.1 s.2.1 l1 s.2.2.2.1 s.2.2.2.2.1 s.2.2.2.2.2.1 s.2.2.2.2.2.2.1 s.2.2.2.2.2.2.2, spM s.1 s.2.1 l1 s.2.2.2.1 s.2.2.2.2.1 s.2.2.2.2.2.1 s.2.2.2.2.2.2.1 s.2.2.2.2.2.2.2 s.2.2.1, spR s.1 s.2.1 l1 s.2.2.2.1 s.2.2.2.2.1 s.2.2.2.2.2.1 s.2.2.2.2.2.2.1 s.2.2.2.2.2.2.2, spC s.1 s.2.1 l1 s.2.2.2.1 s.2.2.2.2.1 s.2.2.2.2.2.1 s.2.2.2.2.2.2.1 s.2.2.2.2.2.2.2, spZ s.1 s.2.1 l1 s.2.2.2.1 s.2.2.2.2.1 s.2.2.2.2.2.1 s.2.2.2.2.2.2.1 s.2.2.2.2.2.2.2, spN s.1 s.2.1 l1 s.2.2.2.1 s.2.2.2.2.1 s.2.2.2.2.2.1 s.2.2.2.2.2.2.1 s.2.2.2.2.2.2.2, spL s.1 s.2.1 l1 s.2.2.2.1 s.2.2.2.2.1 s.2.2.2.2.2.1 s.2.2.2.2.2.2.1 s.2.2.2.2.2.2.2)
noncomputable def itM (l1 : Int) (s : Mch) : Nat -> Mch
 | 0 => s
 | j + 1 => nxM l1 (itM l1 s j)
theorem itP_ex : ∃ F0 : Int -> Mch -> Nat -> List (List Int), ∀ l1 s j, F0 l1 s j = (itM l1 s j).1 := ⟨_, fun _ _ _ => rfl⟩
noncomputable def itP : Int -> Mch -> Nat -> List (List Int) := Classical.choose itP_ex
theorem itP_eq (l1 : Int) (s : Mch) (j : Nat) : itP l1 s j = (itM l1 s j).1 := Classical.choose_spec itP_ex l1 s j
theorem itQ_ex : ∃ F0 : Int -> Mch -> Nat -> List (List Int), ∀ l1 s j, F0 l1 s j = (itM l1 s j).2.1 := ⟨_, fun _ _ _ => rfl⟩
noncomputable def itQ : Int -> Mch -> Nat -> List (List Int) := Classical.choose itQ_ex
theorem itQ_eq (l1 : Int) (s : Mch) (j : Nat) : itQ l1 s j = (itM l1 s j).2.1 := Classical.choose_spec itQ_ex l1 s j
theorem itMM_ex : ∃ F0 : Int -> Mch -> Nat -> Int, ∀ l1 s j, F0 l1 s j = (itM l1 s j).2.2.1 := ⟨_, fun _ _ _ => rfl⟩
noncomputable def itMM : Int -> Mch -> Nat -> Int := Classical.choose itMM_ex
theorem itMM_eq (l1 : Int) (s : Mch) (j : Nat) : itMM l1 s j = (itM l1 s j).2.2.1 := Classical.choose_spec itMM_ex l1 s j
theorem itR_ex : ∃ F0 : Int -> Mch -> Nat -> List Int, ∀ l1 s j, F0 l1 s j = (itM l1 s j).2.2.2.1 := ⟨_, fun _ _ _ => rfl⟩
noncomputable def itR : Int -> Mch -> Nat -> List Int := Classical.choose itR_ex
theorem itR_eq (l1 : Int) (s : Mch) (j : Nat) : itR l1 s j = (itM l1 s j).2.2.2.1 := Classical.choose_spec itR_ex l1 s j
theorem itC_ex : ∃ F0 : Int -> Mch -> Nat -> Int, ∀ l1 s j, F0 l1 s j = (itM l1 s j).2.2.2.2.1 := ⟨_, fun _ _ _ => rfl⟩
noncomputable def itC : Int -> Mch -> Nat -> Int := Classical.choose itC_ex
theorem itC_eq (l1 : Int) (s : Mch) (j : Nat) : itC l1 s j = (itM l1 s j).2.2.2.2.1 := Classical.choose_spec itC_ex l1 s j
theorem itZ_ex : ∃ F0 : Int -> Mch -> Nat -> Bool, ∀ l1 s j, F0 l1 s j = (itM l1 s j).2.2.2.2.2.1 := ⟨_, fun _ _ _ => rfl⟩
noncomputable def itZ : Int -> Mch -> Nat -> Bool := Classical.choose itZ_ex
theorem itZ_eq (l1 : Int) (s : Mch) (j : Nat) : itZ l1 s j = (itM l1 s j).2.2.2.2.2.1 := Classical.choose_spec itZ_ex l1 s j
theorem itN_ex : ∃ F0 : Int -> Mch -> Nat -> Bool, ∀ l1 s j, F0 l1 s j = (itM l1 s j).2.2.2.2.2.2.1 := ⟨_, fun _ _ _ => rfl⟩
noncomputable def itN : Int -> Mch -> Nat -> Bool := Classical.choose itN_ex
theorem itN_eq (l1 : Int) (s : Mch) (j : Nat) : itN l1 s j = (itM l1 s j).2.2.2.2.2.2.1 := Classical.choose_spec itN_ex l1 s j
theorem itL_ex : ∃ F0 : Int -> Mch -> Nat -> Bool, ∀ l1 s j, F0 l1 s j = (itM l1 s j).2.2.2.2.2.2.2 := ⟨_, fun _ _ _ => rfl⟩
noncomputable def itL : Int -> Mch -> Nat -> Bool := Classical.choose itL_ex
theorem itL_eq (l1 : Int) (s : Mch) (j : Nat) : itL l1 s j = (itM l1 s j).2.2.2.2.2.2.2 := Classical.choose_spec itL_ex l1 s j
theorem itK_ex : ∃ F0 : Int -> Mch -> Nat -> Int, ∀ l1 s j, F0 l1 s j = spK (itM l1 s j).1 (itM l1 s j).2.1 l1 (itM l1 s j).2.2.2.1 (itM l1 s j).2.2.2.2.1 (itM l1 s j).2.2.2.2.2.1 (itM l1 s j).2.2.2.2.2.2.1 (itM l1 s j).2.2.2.2.2.2.2 := ⟨_, fun _ _ _ => rfl⟩
noncomputable def itK : Int -> Mch -> Nat -> Int := Classical.choose itK_ex
theorem itK_eq (l1 : Int) (s : Mch) (j : Nat) : itK l1 s j = spK (itM l1 s j).1 (itM l1 s j).2.1 l1 (itM l1 s j).2.2.2.1 (itM l1 s j).2.2.2.2.1 (itM l1 s j).2.2.2.2.2.1 (itM l1 s j).2.2.2.2.2.2.1 (itM l1 s j).2.2.2.2.2.2.2 := Classical.choose_spec itK_ex l1 s j
theorem itA_ex : ∃ F0 : Int -> Mch -> Nat -> Int, ∀ l1 s j, F0 l1 s j = spA (itM l1 s j).1 (itM l1 s j).2.1 l1 (itM l1 s j).2.2.2.1 (itM l1 s j).2.2.2.2.1 (itM l1 s j).2.2.2.2.2.1 (itM l1 s j).2.2.2.2.2.2.1 (itM l1 s j).2.2.2.2.2.2.2 := ⟨_, fun _ _ _ => rfl⟩
noncomputable def itA : Int -> Mch -> Nat -> Int := Classical.choose itA_ex
theorem itA_eq (l1 : Int) (s : Mch) (j : Nat) : itA l1 s j = spA (itM l1 s j).1 (itM l1 s j).2.1 l1 (itM l1 s j).2.2.2.1 (itM l1 s j).2.2.2.2.1 (itM l1 s j).2.2.2.2.2.1 (itM l1 s j).2.2.2.2.2.2.1 (itM l1 s j).2.2.2.2.2.2.2 := Classical.choose_spec itA_ex l1 s j
theorem it_s (l1 : Int) (s : Mch) (j : Nat) : (itP l1 s (j + 1)) = spP (itP l1 s j) (itQ l1 s j) l1 (itR l1 s j) (itC l1 s j) (itZ l1 s j) (itN l1 s j) (itL l1 s j) /\ (itQ l1 s (j + 1)) = spQ (itP l1 s j) (itQ l1 s j) l1 (itR l1 s j) (itC l1 s j) (itZ l1 s j) (itN l1 s j) (itL l1 s j) /\ (itMM l1 s (j + 1)) = spM (itP l1 s j) (itQ l1 s j) l1 (itR l1 s j) (itC l1 s j) (itZ l1 s j) (itN l1 s j) (itL l1 s j) (itMM l1 s j) /\ (itR l1 s (j + 1)) = spR (itP l1 s j) (itQ l1 s j) l1 (itR l1 s j) (itC l1 s j) (itZ l1 s j) (itN l1 s j) (itL l1 s j) /\ (itC l1 s (j + 1)) = spC (itP l1 s j) (itQ l1 s j) l1 (itR l1 s j) (itC l1 s j) (itZ l1 s j) (itN l1 s j) (itL l1 s j) /\ (itZ l1 s (j + 1)) = spZ (itP l1 s j) (itQ l1 s j) l1 (itR l1 s j) (itC l1 s j) (itZ l1 s j) (itN l1 s j) (itL l1 s j) /\ (itN l1 s (j + 1)) = spN (itP l1 s j) (itQ l1 s j) l1 (itR l1 s j) (itC l1 s j) (itZ l1 s j) (itN l1 s j) (itL l1 s j) /\ (itL l1 s (j + 1)) = spL (itP l1 s j) (itQ l1 s j) l1 (itR l1 s j) (itC l1 s j) (itZ l1 s j) (itN l1 s j) (itL l1 s j) /\ (itK l1 s j) = spK (itP l1 s j) (itQ l1 s j) l1 (itR l1 s j) (itC l1 s j) (itZ l1 s j) (itN l1 s j) (itL l1 s j) /\ (itA l1 s j) = spA (itP l1 s j) (itQ l1 s j) l1 (itR l1 s j) (itC l1 s j) (itZ l1 s j) (itN l1 s j) (itL l1 s j) := by
 rw [itP_eq, itQ_eq, itMM_eq, itR_eq, itC_eq, itZ_eq, itN_eq, itL_eq, itP_eq, itQ_eq, itMM_eq, itR_eq, itC_eq, itZ_eq, itN_eq, itL_eq, itK_eq, itA_eq]
 exact ⟨rfl, rfl, rfl, rfl, rfl, rfl, rfl, rfl, rfl, rfl⟩
theorem it_0 (l1 : Int) (s : Mch) : (itP l1 s 0) = s.1 /\ (itQ l1 s 0) = s.2.1 /\ (itMM l1 s 0) = s.2.2.1 /\ (itR l1 s 0) = s.2.2.2.1 /\ (itC l1 s 0) = s.2.2.2.2.1 /\ (itZ l1 s 0) = s.2.2.2.2.2.1 /\ (itN l1 s 0) = s.2.2.2.2.2.2.1 /\ (itL l1 s 0) = s.2.2.2.2.2.2.2 := by
 rw [itP_eq, itQ_eq, itMM_eq, itR_eq, itC_eq, itZ_eq, itN_eq, itL_eq]
 exact ⟨rfl, rfl, rfl, rfl, rfl, rfl, rfl, rfl⟩
theorem itM_add (l1 : Int) (s : Mch) (a : Nat) : ∀ b, itM l1 s (a + b) = itM l1 (itM l1 s a) b
 | 0 => rfl
 | b + 1 => by
   show nxM l1 (itM l1 s (a + b)) = nxM l1 (itM l1 (itM l1 s a) b)
   rw [itM_add l1 s a b]
noncomputable def qS (l1 : Int) (s : Mch) : Nat -> Nat
 | 0 => 0
 | f + 1 => if qS l1 s f < f then qS l1 s f else if itK l1 s f = 0 then f + 1 else f
theorem q_spec (l1 : Int) (s : Mch) : ∀ f, qS l1 s f <= f /\ (∀ i, i < qS l1 s f -> itK l1 s i = 0) /\ (qS l1 s f < f -> itK l1 s (qS l1 s f) ≠ 0)
 | 0 => ⟨Nat.le_refl _, fun i h => by simp [qS] at h, fun h => by omega⟩
 | f + 1 => by
   obtain ⟨h1, h2, h3⟩ := q_spec l1 s f
   simp only [qS]
   by_cases hq : qS l1 s f < f
   ·rw [if_pos hq]
    exact ⟨by omega, h2, fun _ => h3 hq⟩
   ·rw [if_neg hq]
    have e : qS l1 s f = f := by omega
    rw [e] at h2
    by_cases hk : itK l1 s f = 0
    ·rw [if_pos hk]
     refine ⟨Nat.le_refl _, fun i hi => ?_, fun h => by omega⟩
     by_cases hif : i = f
     ·rw [hif]; exact hk
     ·exact h2 i (by omega)
    ·rw [if_neg hk]
     exact ⟨by omega, h2, fun _ => hk⟩
theorem q_uniq {l1 : Int} {s : Mch} {f j : Nat} (h1 : j <= f) (h2 : ∀ i, i < j -> itK l1 s i = 0) (h3 : j < f -> itK l1 s j ≠ 0) : qS l1 s f = j := by
 obtain ⟨g1, g2, g3⟩ := q_spec l1 s f
 rcases Nat.lt_trichotomy (qS l1 s f) j with h | h | h
 ·exact absurd (h2 _ h) (g3 (by omega))
 ·exact h
 ·exact absurd (g2 _ h) (h3 (by omega))
theorem ruI_ex : ∃ F0 : Int -> Mch -> Nat -> Nat, ∀ l1 s f, F0 l1 s f = if qS l1 s f < f then qS l1 s f + 1 else f := ⟨_, fun _ _ _ => rfl⟩
noncomputable def ruI : Int -> Mch -> Nat -> Nat := Classical.choose ruI_ex
theorem ruI_eq (l1 : Int) (s : Mch) (f : Nat) : ruI l1 s f = if qS l1 s f < f then qS l1 s f + 1 else f := Classical.choose_spec ruI_ex l1 s f
theorem ruK_ex : ∃ F0 : Int -> Mch -> Nat -> Int, ∀ l1 s f, F0 l1 s f = if qS l1 s f < f then itK l1 s (qS l1 s f) else 5 := ⟨_, fun _ _ _ => rfl⟩
noncomputable def ruK : Int -> Mch -> Nat -> Int := Classical.choose ruK_ex
theorem ruK_eq (l1 : Int) (s : Mch) (f : Nat) : ruK l1 s f = if qS l1 s f < f then itK l1 s (qS l1 s f) else 5 := Classical.choose_spec ruK_ex l1 s f
theorem ruA_ex : ∃ F0 : Int -> Mch -> Nat -> Int, ∀ l1 s f, F0 l1 s f = if qS l1 s f < f then itA l1 s (qS l1 s f) else 0 := ⟨_, fun _ _ _ => rfl⟩
noncomputable def ruA : Int -> Mch -> Nat -> Int := Classical.choose ruA_ex
theorem ruA_eq (l1 : Int) (s : Mch) (f : Nat) : ruA l1 s f = if qS l1 s f < f then itA l1 s (qS l1 s f) else 0 := Classical.choose_spec ruA_ex l1 s f
theorem rfP_ex : ∃ F0 : Int -> Mch -> Int -> List (List Int), ∀ l1 s fuel, F0 l1 s fuel = if fuel < 0 then s.1 else itP l1 s (ruI l1 s fuel.toNat) := ⟨_, fun _ _ _ => rfl⟩
noncomputable def rfP : Int -> Mch -> Int -> List (List Int) := Classical.choose rfP_ex
theorem rfP_eq (l1 : Int) (s : Mch) (fuel : Int) : rfP l1 s fuel = if fuel < 0 then s.1 else itP l1 s (ruI l1 s fuel.toNat) := Classical.choose_spec rfP_ex l1 s fuel
theorem rfQ_ex : ∃ F0 : Int -> Mch -> Int -> List (List Int), ∀ l1 s fuel, F0 l1 s fuel = if fuel < 0 then s.2.1 else itQ l1 s (ruI l1 s fuel.toNat) := ⟨_, fun _ _ _ => rfl⟩
noncomputable def rfQ : Int -> Mch -> Int -> List (List Int) := Classical.choose rfQ_ex
theorem rfQ_eq (l1 : Int) (s : Mch) (fuel : Int) : rfQ l1 s fuel = if fuel < 0 then s.2.1 else itQ l1 s (ruI l1 s fuel.toNat) := Classical.choose_spec rfQ_ex l1 s fuel
theorem rfMM_ex : ∃ F0 : Int -> Mch -> Int -> Int, ∀ l1 s fuel, F0 l1 s fuel = if fuel < 0 then s.2.2.1 else itMM l1 s (ruI l1 s fuel.toNat) := ⟨_, fun _ _ _ => rfl⟩
noncomputable def rfMM : Int -> Mch -> Int -> Int := Classical.choose rfMM_ex
theorem rfMM_eq (l1 : Int) (s : Mch) (fuel : Int) : rfMM l1 s fuel = if fuel < 0 then s.2.2.1 else itMM l1 s (ruI l1 s fuel.toNat) := Classical.choose_spec rfMM_ex l1 s fuel
theorem rfR_ex : ∃ F0 : Int -> Mch -> Int -> List Int, ∀ l1 s fuel, F0 l1 s fuel = if fuel < 0 then [0, 0, 0, 0, 0, 0, 0, 0, 0, 0, 0, 0, 0, 0, 0] else itR l1 s (ruI l1 s fuel.toNat) := ⟨_, fun _ _ _ => rfl⟩
noncomputable def rfR : Int -> Mch -> Int -> List Int := Classical.choose rfR_ex
theorem rfR_eq (l1 : Int) (s : Mch) (fuel : Int) : rfR l1 s fuel = if fuel < 0 then [0, 0, 0, 0, 0, 0, 0, 0, 0, 0, 0, 0, 0, 0, 0] else itR l1 s (ruI l1 s fuel.toNat) := Classical.choose_spec rfR_ex l1 s fuel
theorem rfC_ex : ∃ F0 : Int -> Mch -> Int -> Int, ∀ l1 s fuel, F0 l1 s fuel = if fuel < 0 then 0 else itC l1 s (ruI l1 s fuel.toNat) := ⟨_, fun _ _ _ => rfl⟩
noncomputable def rfC : Int -> Mch -> Int -> Int := Classical.choose rfC_ex
theorem rfC_eq (l1 : Int) (s : Mch) (fuel : Int) : rfC l1 s fuel = if fuel < 0 then 0 else itC l1 s (ruI l1 s fuel.toNat) := Classical.choose_spec rfC_ex l1 s fuel
theorem rfZ_ex : ∃ F0 : Int -> Mch -> Int -> Bool, ∀ l1 s fuel, F0 l1 s fuel = if fuel < 0 then false else itZ l1 s (ruI l1 s fuel.toNat) := ⟨_, fun _ _ _ => rfl⟩
noncomputable def rfZ : Int -> Mch -> Int -> Bool := Classical.choose rfZ_ex
theorem rfZ_eq (l1 : Int) (s : Mch) (fuel : Int) : rfZ l1 s fuel = if fuel < 0 then false else itZ l1 s (ruI l1 s fuel.toNat) := Classical.choose_spec rfZ_ex l1 s fuel
theorem rfN_ex : ∃ F0 : Int -> Mch -> Int -> Bool, ∀ l1 s fuel, F0 l1 s fuel = if fuel < 0 then false else itN l1 s (ruI l1 s fuel.toNat) := ⟨_, fun _ _ _ => rfl⟩
noncomputable def rfN : Int -> Mch -> Int -> Bool := Classical.choose rfN_ex
theorem rfN_eq (l1 : Int) (s : Mch) (fuel : Int) : rfN l1 s fuel = if fuel < 0 then false else itN l1 s (ruI l1 s fuel.toNat) := Classical.choose_spec rfN_ex l1 s fuel
theorem rfL_ex : ∃ F0 : Int -> Mch -> Int -> Bool, ∀ l1 s fuel, F0 l1 s fuel = if fuel < 0 then false else itL l1 s (ruI l1 s fuel.toNat) := ⟨_, fun _ _ _ => rfl⟩
noncomputable def rfL : Int -> Mch -> Int -> Bool := Classical.choose rfL_ex
theorem rfL_eq (l1 : Int) (s : Mch) (fuel : Int) : rfL l1 s fuel = if fuel < 0 then false else itL l1 s (ruI l1 s fuel.toNat) := Classical.choose_spec rfL_ex l1 s fuel
theorem rfK_ex : ∃ F0 : Int -> Mch -> Int -> Int, ∀ l1 s fuel, F0 l1 s fuel = if fuel < 0 then 0 else ruK l1 s fuel.toNat := ⟨_, fun _ _ _ => rfl⟩
noncomputable def rfK : Int -> Mch -> Int -> Int := Classical.choose rfK_ex
theorem rfK_eq (l1 : Int) (s : Mch) (fuel : Int) : rfK l1 s fuel = if fuel < 0 then 0 else ruK l1 s fuel.toNat := Classical.choose_spec rfK_ex l1 s fuel
theorem rfA_ex : ∃ F0 : Int -> Mch -> Int -> Int, ∀ l1 s fuel, F0 l1 s fuel = if fuel < 0 then 0 else ruA l1 s fuel.toNat := ⟨_, fun _ _ _ => rfl⟩
noncomputable def rfA : Int -> Mch -> Int -> Int := Classical.choose rfA_ex
theorem rfA_eq (l1 : Int) (s : Mch) (fuel : Int) : rfA l1 s fuel = if fuel < 0 then 0 else ruA l1 s fuel.toNat := Classical.choose_spec rfA_ex l1 s fuel
theorem rfU_ex : ∃ F0 : Int -> Mch -> Int -> Int, ∀ l1 s fuel, F0 l1 s fuel = if fuel < 0 then 0 else (ruI l1 s fuel.toNat : Int) := ⟨_, fun _ _ _ => rfl⟩
noncomputable def rfU : Int -> Mch -> Int -> Int := Classical.choose rfU_ex
theorem rfU_eq (l1 : Int) (s : Mch) (fuel : Int) : rfU l1 s fuel = if fuel < 0 then 0 else (ruI l1 s fuel.toNat : Int) := Classical.choose_spec rfU_ex l1 s fuel
theorem rfE_ex : ∃ F0 : Int -> Mch -> Int -> Int, ∀ l1 s fuel, F0 l1 s fuel = if fuel < 0 then 100 else 0 := ⟨_, fun _ _ _ => rfl⟩
noncomputable def rfE : Int -> Mch -> Int -> Int := Classical.choose rfE_ex
theorem rfE_eq (l1 : Int) (s : Mch) (fuel : Int) : rfE l1 s fuel = if fuel < 0 then 100 else 0 := Classical.choose_spec rfE_ex l1 s fuel
structure okS (l1 : Int) (a b : Nat) (lim : Int) (s : Mch) : Prop where
 f : wfF s.2.2.2.1 s.2.2.2.2.1
 l0 : InK .i64 l1
 m0 : 0 <= s.2.2.1
 m1 : s.2.2.1 <= lim
 p1 : wfP s.1
 p2 : wfP s.2.1
 e1 : s.1.length = a
 e2 : s.2.1.length = b
theorem okS.next {l1 : Int} {a b : Nat} {lim : Int} {s : Mch} (h : okS l1 a b lim s) (hl : lim <= 3000000000000000000) : okS l1 a b (lim + 6) (nxM l1 s) := by
 have := sp_ok (l1 := l1) (z := s.2.2.2.2.2.1) (n := s.2.2.2.2.2.2.1) (l := s.2.2.2.2.2.2.2) h.f ⟨h.l0, h.m0, by have := h.m1; omega, h.p1, h.p2⟩
 obtain ⟨g1, g2, g3, g4, g5, g6⟩ := this
 exact ⟨g1, h.l0, by have := h.m0; show 0 <= spM s.1 s.2.1 l1 s.2.2.2.1 s.2.2.2.2.1 s.2.2.2.2.2.1 s.2.2.2.2.2.2.1 s.2.2.2.2.2.2.2 s.2.2.1; omega, by have := h.m1; show spM s.1 s.2.1 l1 s.2.2.2.1 s.2.2.2.2.1 s.2.2.2.2.2.1 s.2.2.2.2.2.2.1 s.2.2.2.2.2.2.2 s.2.2.1 <= lim + 6; omega, g2.1, g2.2, g3.1.trans h.e1, g3.2.trans h.e2⟩
theorem okS.it {l1 : Int} {a b : Nat} {lim : Int} {s : Mch} (h : okS l1 a b lim s) : ∀ j : Nat, lim + 6 * (j : Int) <= 3000000000000000000 -> okS l1 a b (lim + 6 * (j : Int)) (itM l1 s j)
 | 0, _ => ⟨h.f, h.l0, h.m0, by have := h.m1; show s.2.2.1 <= _; omega, h.p1, h.p2, h.e1, h.e2⟩
 | j + 1, hj => by
   have := (okS.it h j (by omega)).next (by omega)
   have e : lim + 6 * ((j + 1 : Nat) : Int) = lim + 6 * (j : Int) + 6 := by omega
   rw [e]
   exact this
theorem okS.comp {l1 : Int} {a b : Nat} {lim : Int} {s : Mch} (h : okS l1 a b lim s) (j : Nat) (hj : lim + 6 * (j : Int) <= 3000000000000000000) :
 wfF (itR l1 s j) (itC l1 s j) /\ wfS l1 (itP l1 s j) (itQ l1 s j) (itMM l1 s j) /\ (itP l1 s j).length = a /\ (itQ l1 s j).length = b /\ itMM l1 s j <= lim + 6 * (j : Int) /\ (0 <= itK l1 s j /\ itK l1 s j <= 4) /\ InK .u32 (itA l1 s j) := by
 have g := h.it j hj
 have hs := sp_ok (l1 := l1) (z := (itM l1 s j).2.2.2.2.2.1) (n := (itM l1 s j).2.2.2.2.2.2.1) (l := (itM l1 s j).2.2.2.2.2.2.2) g.f ⟨g.l0, g.m0, by have := g.m1; omega, g.p1, g.p2⟩
 rw [itR_eq, itC_eq, itP_eq, itQ_eq, itMM_eq, itK_eq, itA_eq]
 exact ⟨g.f, ⟨g.l0, g.m0, by have := g.m1; omega, g.p1, g.p2⟩, g.e1, g.e2, g.m1, hs.2.2.2.2.1, hs.2.2.2.2.2⟩
noncomputable def pt_Cf : List (Nat × (List SV -> Option (List Prop × SV))) := []
theorem pt_Cf_ok : PureOK Tryd.prog (fun f => List.lookup f pt_Cf) := pure_list pt_Cf trivial
noncomputable def et_Cf : List (Nat × ECon) := [(14, c_StepC)]
theorem et_Cf_ok : ConOK Tryd.prog (fun f => List.lookup f et_Cf) := con_list et_Cf ⟨c_StepC_e, trivial⟩
noncomputable abbrev cx_Cf (must : Nat -> Option Bool := fun _ => none) (loop : Nat -> SS -> Option LoopSpec := fun _ _ => none) : Ctx := ⟨tab, inlG tab (fun f => List.lookup f pt_Cf) (fun f => List.lookup f et_Cf) fns (fun _ => {}) 1000 6, fun f => List.lookup f pt_Cf, must, loop, 0, 0, fun f => List.lookup f et_Cf⟩
theorem cx_Cf_ok (must : Nat -> Option Bool) (loop : Nat -> SS -> Option LoopSpec) : CxOK Tryd.prog (cx_Cf must loop) := inlG_ok mixed tab_ok pt_Cf_ok et_Cf_ok fns_ok 6 _ _ _ _
theorem RunC_ok (l1 : Int) (R : List Int) (pc : Int) (z n l : Bool) (ps qs : List (List Int)) (m : Int) (fuel : Int) (h0 : okS l1 ps.length qs.length 2000000000000000000 (ps, qs, m, R, pc, z, n, l)) (h1 : fuel <= 100000) : SemCall Tryd.prog 24 [.ptr 0 0, .int .i64 l1, .agg [.ints .u32 15 R, .int .u32 pc, .bool z, .bool n, .bool l], .int .i64 fuel] [some ⟨120, [], 0, some (.own (.mem ps qs m))⟩] (AltK [⟨none, .tup [.agg [.ints .u32 15 (rfR l1 (ps, qs, m, R, pc, z, n, l) fuel), .int .u32 (rfC l1 (ps, qs, m, R, pc, z, n, l) fuel), .bool (rfZ l1 (ps, qs, m, R, pc, z, n, l) fuel), .bool (rfN l1 (ps, qs, m, R, pc, z, n, l) fuel), .bool (rfL l1 (ps, qs, m, R, pc, z, n, l) fuel)], .agg [.int .i64 (rfK l1 (ps, qs, m, R, pc, z, n, l) fuel), .int .u32 (rfA l1 (ps, qs, m, R, pc, z, n, l) fuel)], .int .i64 (rfU l1 (ps, qs, m, R, pc, z, n, l) fuel), .int .i64 (rfE l1 (ps, qs, m, R, pc, z, n, l) fuel)], [some ⟨120, [], 0, some (.own (.mem (rfP l1 (ps, qs, m, R, pc, z, n, l) fuel) (rfQ l1 (ps, qs, m, R, pc, z, n, l) fuel) (rfMM l1 (ps, qs, m, R, pc, z, n, l) fuel)))⟩]⟩]) := by
 refine con_intro mixed (cx_Cf_ok (fun _ => none) (fun q w_ => bif Nat.beq q 3 then some ⟨(Nat × Int), fun x => ⟨[(0, .ptr 0 0), (1, .int .i64 l1), (3, .int .i64 fuel), (6, .ptr 1 0), (8, .ptr 2 0), (9, .ptr 3 0), (10, .int .i64 (x.1 : Int)), (11, .int .i64 0)], [some ⟨120, [], 0, some (.own (.mem (itP l1 (ps, qs, m, R, pc, z, n, l) x.1) (itQ l1 (ps, qs, m, R, pc, z, n, l) x.1) (itMM l1 (ps, qs, m, R, pc, z, n, l) x.1)))⟩, some ⟨26, [.ints .u32 15 (itR l1 (ps, qs, m, R, pc, z, n, l) x.1), .int .u32 (itC l1 (ps, qs, m, R, pc, z, n, l) x.1), .bool (itZ l1 (ps, qs, m, R, pc, z, n, l) x.1), .bool (itN l1 (ps, qs, m, R, pc, z, n, l) x.1), .bool (itL l1 (ps, qs, m, R, pc, z, n, l) x.1)], 0, none⟩, some ⟨26, [.ints .u32 15 [0, 0, 0, 0, 0, 0, 0, 0, 0, 0, 0, 0, 0, 0, 0], .int .u32 0, .bool false, .bool false, .bool false], 0, none⟩, some ⟨42, [.int .i64 0, .int .u32 x.2], 0, none⟩]⟩, fun x => x.1 <= fuel.toNat /\ ∀ i, i < x.1 -> itK l1 (ps, qs, m, R, pc, z, n, l) i = 0, fun x => fuel.toNat - x.1⟩ else none)) Tryd.func24 1000 ?_
 refine of_nf (p := letI k0_ := ((([(0 : Int), 0, 0, 0, 0, 0, 0, 0, 0, 0, 0, 0, 0, 0, 0] = rfR l1 (ps, qs, m, R, pc, z, n, l) fuel /\ 0 = rfC l1 (ps, qs, m, R, pc, z, n, l) fuel /\ false = rfZ l1 (ps, qs, m, R, pc, z, n, l) fuel /\ false = rfN l1 (ps, qs, m, R, pc, z, n, l) fuel /\ false = rfL l1 (ps, qs, m, R, pc, z, n, l) fuel /\ True) /\ (0 = rfK l1 (ps, qs, m, R, pc, z, n, l) fuel /\ 0 = rfA l1 (ps, qs, m, R, pc, z, n, l) fuel /\ True) /\ 0 = rfU l1 (ps, qs, m, R, pc, z, n, l) fuel /\ 100 = rfE l1 (ps, qs, m, R, pc, z, n, l) fuel /\ True) /\ True); letI k1_ := (OT.mem (rfP l1 (ps, qs, m, R, pc, z, n, l) fuel) (rfQ l1 (ps, qs, m, R, pc, z, n, l) fuel) (rfMM l1 (ps, qs, m, R, pc, z, n, l) fuel)); letI k2_ := (Ob.own (OT.mem ps qs m) = Ob.own k1_ /\ nat_lit 119 + (1 : Nat) = (120 : TypeId) /\ (0 : Nat) = (0 : Nat) /\ True); (decide (fuel < 0) = true -> k0_ /\ k2_ /\ True) /\ (decide (fuel < 0) = false -> (decide (100000 < fuel) = true -> k0_ /\ k2_ /\ True) /\ (decide (100000 < fuel) = false -> ∃ (x : Nat × Int), ((SV.ptr (0 : Nat) 0 = SV.ptr (0 : Nat) (0 : Nat) /\ l1 = l1 /\ fuel = fuel /\ SV.ptr (1 : Nat) 0 = SV.ptr (1 : Nat) (0 : Nat) /\ SV.ptr (2 : Nat) 0 = SV.ptr (2 : Nat) (0 : Nat) /\ SV.ptr (3 : Nat) 0 = SV.ptr (3 : Nat) (0 : Nat) /\ (0 : Int) = ((x.1 : Nat) : Int) /\ (0 : Int) = (0 : Int) /\ True) /\ (Ob.own (OT.mem ps qs m) = Ob.own (OT.mem (itP l1 (ps, qs, m, R, pc, z, n, l) x.1) (itQ l1 (ps, qs, m, R, pc, z, n, l) x.1) (itMM l1 (ps, qs, m, R, pc, z, n, l) x.1)) /\ nat_lit 119 + (1 : Nat) = (120 : TypeId) /\ (0 : Nat) = (0 : Nat) /\ True) /\ (nat_lit 25 + (1 : Nat) = (26 : TypeId) /\ (0 : Nat) = (0 : Nat) /\ R = itR l1 (ps, qs, m, R, pc, z, n, l) x.1 /\ pc = itC l1 (ps, qs, m, R, pc, z, n, l) x.1 /\ z = itZ l1 (ps, qs, m, R, pc, z, n, l) x.1 /\ n = itN l1 (ps, qs, m, R, pc, z, n, l) x.1 /\ l = itL l1 (ps, qs, m, R, pc, z, n, l) x.1 /\ True) /\ ((26 : Nat) = (26 : Nat) /\ (0 : Nat) = (0 : Nat) /\ [(0 : Int), 0, 0, 0, 0, 0, 0, 0, 0, 0, 0, 0, 0, 0, 0] = [(0 : Int), 0, 0, 0, 0, 0, 0, 0, 0, 0, 0, 0, 0, 0, 0] /\ (0 : Int) = (0 : Int) /\ false = false /\ false = false /\ false = false /\ True) /\ ((42 : Nat) = (42 : TypeId) /\ (0 : Nat) = (0 : Nat) /\ (0 : Int) = (0 : Int) /\ 0 = x.2 /\ True) /\ True) /\ (x.1 <= fuel.toNat /\ ∀ (i : Nat), i < x.1 -> itK l1 (ps, qs, m, R, pc, z, n, l) i = 0) /\ ∀ (x : Nat × Int), (x.1 <= fuel.toNat /\ ∀ (i : Nat), i < x.1 -> itK l1 (ps, qs, m, R, pc, z, n, l) i = 0) -> (decide (((x.1 : Nat) : Int) < fuel) = true -> ((-9223372036854775808 : Int) <= ((x.1 : Nat) : Int) + 1 /\ ((x.1 : Nat) : Int) + 1 < (9223372036854775808 : Int)) /\ wfF (itR l1 (ps, qs, m, R, pc, z, n, l) x.1) (itC l1 (ps, qs, m, R, pc, z, n, l) x.1) /\ wfS l1 (itP l1 (ps, qs, m, R, pc, z, n, l) x.1) (itQ l1 (ps, qs, m, R, pc, z, n, l) x.1) (itMM l1 (ps, qs, m, R, pc, z, n, l) x.1) /\ ∀ (ys : List Int), ys = spR (itP l1 (ps, qs, m, R, pc, z, n, l) x.1) (itQ l1 (ps, qs, m, R, pc, z, n, l) x.1) l1 (itR l1 (ps, qs, m, R, pc, z, n, l) x.1) (itC l1 (ps, qs, m, R, pc, z, n, l) x.1) (itZ l1 (ps, qs, m, R, pc, z, n, l) x.1) (itN l1 (ps, qs, m, R, pc, z, n, l) x.1) (itL l1 (ps, qs, m, R, pc, z, n, l) x.1) -> ∀ (m_1 : Int), m_1 = spC (itP l1 (ps, qs, m, R, pc, z, n, l) x.1) (itQ l1 (ps, qs, m, R, pc, z, n, l) x.1) l1 (itR l1 (ps, qs, m, R, pc, z, n, l) x.1) (itC l1 (ps, qs, m, R, pc, z, n, l) x.1) (itZ l1 (ps, qs, m, R, pc, z, n, l) x.1) (itN l1 (ps, qs, m, R, pc, z, n, l) x.1) (itL l1 (ps, qs, m, R, pc, z, n, l) x.1) -> ∀ (c : Bool), c = spZ (itP l1 (ps, qs, m, R, pc, z, n, l) x.1) (itQ l1 (ps, qs, m, R, pc, z, n, l) x.1) l1 (itR l1 (ps, qs, m, R, pc, z, n, l) x.1) (itC l1 (ps, qs, m, R, pc, z, n, l) x.1) (itZ l1 (ps, qs, m, R, pc, z, n, l) x.1) (itN l1 (ps, qs, m, R, pc, z, n, l) x.1) (itL l1 (ps, qs, m, R, pc, z, n, l) x.1) -> ∀ (c_1 : Bool), c_1 = spN (itP l1 (ps, qs, m, R, pc, z, n, l) x.1) (itQ l1 (ps, qs, m, R, pc, z, n, l) x.1) l1 (itR l1 (ps, qs, m, R, pc, z, n, l) x.1) (itC l1 (ps, qs, m, R, pc, z, n, l) x.1) (itZ l1 (ps, qs, m, R, pc, z, n, l) x.1) (itN l1 (ps, qs, m, R, pc, z, n, l) x.1) (itL l1 (ps, qs, m, R, pc, z, n, l) x.1) -> ∀ (c_2 : Bool), c_2 = spL (itP l1 (ps, qs, m, R, pc, z, n, l) x.1) (itQ l1 (ps, qs, m, R, pc, z, n, l) x.1) l1 (itR l1 (ps, qs, m, R, pc, z, n, l) x.1) (itC l1 (ps, qs, m, R, pc, z, n, l) x.1) (itZ l1 (ps, qs, m, R, pc, z, n, l) x.1) (itN l1 (ps, qs, m, R, pc, z, n, l) x.1) (itL l1 (ps, qs, m, R, pc, z, n, l) x.1) -> ∀ (m_2 : Int), m_2 = spK (itP l1 (ps, qs, m, R, pc, z, n, l) x.1) (itQ l1 (ps, qs, m, R, pc, z, n, l) x.1) l1 (itR l1 (ps, qs, m, R, pc, z, n, l) x.1) (itC l1 (ps, qs, m, R, pc, z, n, l) x.1) (itZ l1 (ps, qs, m, R, pc, z, n, l) x.1) (itN l1 (ps, qs, m, R, pc, z, n, l) x.1) (itL l1 (ps, qs, m, R, pc, z, n, l) x.1) -> ∀ (m_3 : Int), m_3 = spA (itP l1 (ps, qs, m, R, pc, z, n, l) x.1) (itQ l1 (ps, qs, m, R, pc, z, n, l) x.1) l1 (itR l1 (ps, qs, m, R, pc, z, n, l) x.1) (itC l1 (ps, qs, m, R, pc, z, n, l) x.1) (itZ l1 (ps, qs, m, R, pc, z, n, l) x.1) (itN l1 (ps, qs, m, R, pc, z, n, l) x.1) (itL l1 (ps, qs, m, R, pc, z, n, l) x.1) -> ∀ (ps' : List (List Int)), ps' = spP (itP l1 (ps, qs, m, R, pc, z, n, l) x.1) (itQ l1 (ps, qs, m, R, pc, z, n, l) x.1) l1 (itR l1 (ps, qs, m, R, pc, z, n, l) x.1) (itC l1 (ps, qs, m, R, pc, z, n, l) x.1) (itZ l1 (ps, qs, m, R, pc, z, n, l) x.1) (itN l1 (ps, qs, m, R, pc, z, n, l) x.1) (itL l1 (ps, qs, m, R, pc, z, n, l) x.1) -> ∀ (qs' : List (List Int)), qs' = spQ (itP l1 (ps, qs, m, R, pc, z, n, l) x.1) (itQ l1 (ps, qs, m, R, pc, z, n, l) x.1) l1 (itR l1 (ps, qs, m, R, pc, z, n, l) x.1) (itC l1 (ps, qs, m, R, pc, z, n, l) x.1) (itZ l1 (ps, qs, m, R, pc, z, n, l) x.1) (itN l1 (ps, qs, m, R, pc, z, n, l) x.1) (itL l1 (ps, qs, m, R, pc, z, n, l) x.1) -> ∀ (m' : Int), m' = spM (itP l1 (ps, qs, m, R, pc, z, n, l) x.1) (itQ l1 (ps, qs, m, R, pc, z, n, l) x.1) l1 (itR l1 (ps, qs, m, R, pc, z, n, l) x.1) (itC l1 (ps, qs, m, R, pc, z, n, l) x.1) (itZ l1 (ps, qs, m, R, pc, z, n, l) x.1) (itN l1 (ps, qs, m, R, pc, z, n, l) x.1) (itL l1 (ps, qs, m, R, pc, z, n, l) x.1) (itMM l1 (ps, qs, m, R, pc, z, n, l) x.1) -> ∀ (ys_1 : List Int), ys_1 = itR l1 (ps, qs, m, R, pc, z, n, l) x.1 -> ∀ (m_4 : Int), m_4 = itC l1 (ps, qs, m, R, pc, z, n, l) x.1 -> ∀ (c_3 : Bool), c_3 = itZ l1 (ps, qs, m, R, pc, z, n, l) x.1 -> ∀ (c_4 : Bool), c_4 = itN l1 (ps, qs, m, R, pc, z, n, l) x.1 -> ∀ (c_5 : Bool), c_5 = itL l1 (ps, qs, m, R, pc, z, n, l) x.1 -> ∀ (ys_2 : List Int), ys_2 = [(0 : Int), 0, 0, 0, 0, 0, 0, 0, 0, 0, 0, 0, 0, 0, 0] -> ∀ (m_5 : Int), m_5 = 0 -> ∀ (c_6 : Bool), c_6 = false -> ∀ (c_7 : Bool), c_7 = false -> ∀ (c_8 : Bool), c_8 = false -> ∀ (m_6 : Int), m_6 = 0 -> ∀ (m_7 : Int), m_7 = x.2 -> ((m_2 != 0) = true -> (((ys = rfR l1 (ps, qs, m, R, pc, z, n, l) fuel /\ m_1 = rfC l1 (ps, qs, m, R, pc, z, n, l) fuel /\ c = rfZ l1 (ps, qs, m, R, pc, z, n, l) fuel /\ c_1 = rfN l1 (ps, qs, m, R, pc, z, n, l) fuel /\ c_2 = rfL l1 (ps, qs, m, R, pc, z, n, l) fuel /\ True) /\ (m_2 = rfK l1 (ps, qs, m, R, pc, z, n, l) fuel /\ m_3 = rfA l1 (ps, qs, m, R, pc, z, n, l) fuel /\ True) /\ ((x.1 : Nat) : Int) + 1 = rfU l1 (ps, qs, m, R, pc, z, n, l) fuel /\ 0 = rfE l1 (ps, qs, m, R, pc, z, n, l) fuel /\ True) /\ True) /\ (Ob.own (OT.mem ps' qs' m') = Ob.own k1_ /\ nat_lit 119 + (1 : Nat) = (120 : TypeId) /\ (0 : Nat) = (0 : Nat) /\ True) /\ True) /\ ((m_2 != 0) = false -> ∃ (y : Nat × Int), ((SV.ptr (0 : Nat) 0 = SV.ptr (0 : Nat) (0 : Nat) /\ l1 = l1 /\ fuel = fuel /\ SV.ptr (1 : Nat) 0 = SV.ptr (1 : Nat) (0 : Nat) /\ SV.ptr (2 : Nat) 0 = SV.ptr (2 : Nat) (0 : Nat) /\ SV.ptr (3 : Nat) 0 = SV.ptr (3 : Nat) (0 : Nat) /\ ((x.1 : Nat) : Int) + 1 = ((y.1 : Nat) : Int) /\ (0 : Int) = (0 : Int) /\ True) /\ (Ob.own (OT.mem ps' qs' m') = Ob.own (OT.mem (itP l1 (ps, qs, m, R, pc, z, n, l) y.1) (itQ l1 (ps, qs, m, R, pc, z, n, l) y.1) (itMM l1 (ps, qs, m, R, pc, z, n, l) y.1)) /\ nat_lit 119 + (1 : Nat) = (120 : TypeId) /\ (0 : Nat) = (0 : Nat) /\ True) /\ (nat_lit 25 + (1 : Nat) = (26 : TypeId) /\ (0 : Nat) = (0 : Nat) /\ ys = itR l1 (ps, qs, m, R, pc, z, n, l) y.1 /\ m_1 = itC l1 (ps, qs, m, R, pc, z, n, l) y.1 /\ c = itZ l1 (ps, qs, m, R, pc, z, n, l) y.1 /\ c_1 = itN l1 (ps, qs, m, R, pc, z, n, l) y.1 /\ c_2 = itL l1 (ps, qs, m, R, pc, z, n, l) y.1 /\ True) /\ (nat_lit 25 + (1 : Nat) = (26 : Nat) /\ (0 : Nat) = (0 : Nat) /\ ys_2 = [(0 : Int), 0, 0, 0, 0, 0, 0, 0, 0, 0, 0, 0, 0, 0, 0] /\ m_5 = 0 /\ c_6 = false /\ c_7 = false /\ c_8 = false /\ True) /\ (nat_lit 41 + (1 : Nat) = (42 : TypeId) /\ (0 : Nat) = (0 : Nat) /\ m_2 = 0 /\ m_3 = y.2 /\ True) /\ True) /\ (y.1 <= fuel.toNat /\ ∀ (i : Nat), i < y.1 -> itK l1 (ps, qs, m, R, pc, z, n, l) i = 0) /\ fuel.toNat - y.1 < fuel.toNat - x.1)) /\ (decide (((x.1 : Nat) : Int) < fuel) = false -> (((itR l1 (ps, qs, m, R, pc, z, n, l) x.1 = rfR l1 (ps, qs, m, R, pc, z, n, l) fuel /\ itC l1 (ps, qs, m, R, pc, z, n, l) x.1 = rfC l1 (ps, qs, m, R, pc, z, n, l) fuel /\ itZ l1 (ps, qs, m, R, pc, z, n, l) x.1 = rfZ l1 (ps, qs, m, R, pc, z, n, l) fuel /\ itN l1 (ps, qs, m, R, pc, z, n, l) x.1 = rfN l1 (ps, qs, m, R, pc, z, n, l) fuel /\ itL l1 (ps, qs, m, R, pc, z, n, l) x.1 = rfL l1 (ps, qs, m, R, pc, z, n, l) fuel /\ True) /\ (5 = rfK l1 (ps, qs, m, R, pc, z, n, l) fuel /\ 0 = rfA l1 (ps, qs, m, R, pc, z, n, l) fuel /\ True) /\ ((x.1 : Nat) : Int) = rfU l1 (ps, qs, m, R, pc, z, n, l) fuel /\ 0 = rfE l1 (ps, qs, m, R, pc, z, n, l) fuel /\ True) /\ True) /\ (Ob.own (OT.mem (itP l1 (ps, qs, m, R, pc, z, n, l) x.1) (itQ l1 (ps, qs, m, R, pc, z, n, l) x.1) (itMM l1 (ps, qs, m, R, pc, z, n, l) x.1)) = Ob.own k1_ /\ nat_lit 119 + (1 : Nat) = (120 : TypeId) /\ (0 : Nat) = (0 : Nat) /\ True) /\ True)))) (by kernel_rfl) ?_
 obtain ⟨z1, z2, z3, z4, z5, z6, z7, z8⟩ := it_0 l1 (ps, qs, m, R, pc, z, n, l)
 have z1 : itP l1 (ps, qs, m, R, pc, z, n, l) 0 = ps := z1
 have z2 : itQ l1 (ps, qs, m, R, pc, z, n, l) 0 = qs := z2
 have z3 : itMM l1 (ps, qs, m, R, pc, z, n, l) 0 = m := z3
 have z4 : itR l1 (ps, qs, m, R, pc, z, n, l) 0 = R := z4
 have z5 : itC l1 (ps, qs, m, R, pc, z, n, l) 0 = pc := z5
 have z6 : itZ l1 (ps, qs, m, R, pc, z, n, l) 0 = z := z6
 have z7 : itN l1 (ps, qs, m, R, pc, z, n, l) 0 = n := z7
 have z8 : itL l1 (ps, qs, m, R, pc, z, n, l) 0 = l := z8
 have hc := h0.comp
 have hs := it_s l1 (ps, qs, m, R, pc, z, n, l)
 have hq := fun (j : Nat) => q_uniq (l1 := l1) (s := (ps, qs, m, R, pc, z, n, l)) (f := fuel.toNat) (j := j)
 have rp : 0 <= fuel -> rfP l1 (ps, qs, m, R, pc, z, n, l) fuel = itP l1 (ps, qs, m, R, pc, z, n, l) (ruI l1 (ps, qs, m, R, pc, z, n, l) fuel.toNat) /\ rfQ l1 (ps, qs, m, R, pc, z, n, l) fuel = itQ l1 (ps, qs, m, R, pc, z, n, l) (ruI l1 (ps, qs, m, R, pc, z, n, l) fuel.toNat) /\ rfMM l1 (ps, qs, m, R, pc, z, n, l) fuel = itMM l1 (ps, qs, m, R, pc, z, n, l) (ruI l1 (ps, qs, m, R, pc, z, n, l) fuel.toNat) /\ rfR l1 (ps, qs, m, R, pc, z, n, l) fuel = itR l1 (ps, qs, m, R, pc, z, n, l) (ruI l1 (ps, qs, m, R, pc, z, n, l) fuel.toNat) /\ rfC l1 (ps, qs, m, R, pc, z, n, l) fuel = itC l1 (ps, qs, m, R, pc, z, n, l) (ruI l1 (ps, qs, m, R, pc, z, n, l) fuel.toNat) /\ rfZ l1 (ps, qs, m, R, pc, z, n, l) fuel = itZ l1 (ps, qs, m, R, pc, z, n, l) (ruI l1 (ps, qs, m, R, pc, z, n, l) fuel.toNat) /\ rfN l1 (ps, qs, m, R, pc, z, n, l) fuel = itN l1 (ps, qs, m, R, pc, z, n, l) (ruI l1 (ps, qs, m, R, pc, z, n, l) fuel.toNat) /\ rfL l1 (ps, qs, m, R, pc, z, n, l) fuel = itL l1 (ps, qs, m, R, pc, z, n, l) (ruI l1 (ps, qs, m, R, pc, z, n, l) fuel.toNat) /\ rfK l1 (ps, qs, m, R, pc, z, n, l) fuel = ruK l1 (ps, qs, m, R, pc, z, n, l) fuel.toNat /\ rfA l1 (ps, qs, m, R, pc, z, n, l) fuel = ruA l1 (ps, qs, m, R, pc, z, n, l) fuel.toNat /\ rfU l1 (ps, qs, m, R, pc, z, n, l) fuel = (ruI l1 (ps, qs, m, R, pc, z, n, l) fuel.toNat : Int) /\ rfE l1 (ps, qs, m, R, pc, z, n, l) fuel = 0 := fun h => by
  rw [rfP_eq, rfQ_eq, rfMM_eq, rfR_eq, rfC_eq, rfZ_eq, rfN_eq, rfL_eq, rfK_eq, rfA_eq, rfU_eq, rfE_eq]
  simp only [show ¬ fuel < 0 by omega, if_false, and_self]
 rcases Int.lt_or_le fuel 0 with hn | hn
 ·refine ⟨fun _ => ?_, fun k => absurd hn (of_decide_eq_false k)⟩
  rw [rfP_eq, rfQ_eq, rfMM_eq, rfR_eq, rfC_eq, rfZ_eq, rfN_eq, rfL_eq, rfK_eq, rfA_eq, rfU_eq, rfE_eq]
  simp only [hn, if_true]
  repeat' (first | with_reducible rfl | exact True.intro | with_reducible assumption | apply And.intro)
  all_goals rfl
 obtain ⟨q1, q2, q3, q4, q5, q6, q7, q8, q9, q10, q11, q12⟩ := rp hn
 rw [q1, q2, q3, q4, q5, q6, q7, q8, q9, q10, q11, q12]
 clear q1 q2 q3 q4 q5 q6 q7 q8 q9 q10 q11 q12 rp
 have r1 := ruI_eq l1 (ps, qs, m, R, pc, z, n, l) fuel.toNat
 have r2 := ruK_eq l1 (ps, qs, m, R, pc, z, n, l) fuel.toNat
 have r3 := ruA_eq l1 (ps, qs, m, R, pc, z, n, l) fuel.toNat
 clear h0
 generalize (ps, qs, m, R, pc, z, n, l) = s at *
 refine ⟨fun k => absurd (of_decide_eq_true k) (by omega), fun _ => ⟨fun k => absurd (of_decide_eq_true k) (by omega), fun _ => ⟨(0, 0), ?_, ⟨Nat.zero_le _, fun i hi => absurd hi (Nat.not_lt_zero _)⟩, fun x hx => ⟨fun k => ?_, fun k => ?_⟩⟩⟩⟩
 ·repeat' (first | with_reducible rfl | exact True.intro | with_reducible assumption | apply And.intro)
  all_goals first | rfl | exact z4.symm | exact z5.symm | exact z6.symm | exact z7.symm | exact z8.symm | exact memEq z1.symm z2.symm z3.symm
 ·obtain ⟨j, av⟩ := x
  obtain ⟨hx1, hx2⟩ := hx
  have hx1 : j <= fuel.toNat := hx1
  have k := of_decide_eq_true k
  have k : (j : Int) < fuel := k
  have hx2 : ∀ i, i < j -> itK l1 s i = 0 := hx2
  obtain ⟨s1, s2, s3, s4, s5, s6, s7, s8, s9, s10⟩ := hs j
  obtain ⟨c1, c2, _⟩ := hc j (by omega)
  simp only [↓forall_eq, <- s1, <- s2, <- s3, <- s4, <- s5, <- s6, <- s7, <- s8, <- s9, <- s10]
  refine ⟨⟨by omega, by omega⟩, c1, c2, fun hK => ?_, fun hK => ?_⟩
  ·have hK : itK l1 s j ≠ 0 := by simpa using hK
   have e := hq j hx1 hx2 (fun _ => hK)
   rw [e, if_pos (by omega)] at r1 r2 r3
   rw [r1, r2, r3]
   repeat' (first | with_reducible rfl | exact True.intro | with_reducible assumption | apply And.intro)
   all_goals first | rfl | omega
  ·have hK : itK l1 s j = 0 := by simpa using hK
   refine ⟨(j + 1, itA l1 s j), ?_, ⟨by show j + 1 <= fuel.toNat; omega, fun i hi => ?_⟩, by show fuel.toNat - (j + 1) < fuel.toNat - j; omega⟩
   ·rw [hK]
    repeat' (first | with_reducible rfl | exact True.intro | with_reducible assumption | apply And.intro)
    all_goals first | rfl | (show (j : Int) + 1 = ((j + 1 : Nat) : Int); omega) | omega
   ·have hi : i < j + 1 := hi
    by_cases hij : i = j
    ·rw [hij]; exact hK
    ·exact hx2 i (by omega)
 ·obtain ⟨j, av⟩ := x
  obtain ⟨hx1, hx2⟩ := hx
  have hx1 : j <= fuel.toNat := hx1
  have k := of_decide_eq_false k
  have k : ¬ (j : Int) < fuel := k
  have hj : j = fuel.toNat := by omega
  have e := hq j hx1 hx2 (fun h => absurd h (by omega))
  rw [e, if_neg (by omega)] at r1 r2 r3
  rw [r1, r2, r3, <- hj]
  repeat' (first | with_reducible rfl | exact True.intro | with_reducible assumption | apply And.intro)
  all_goals first | rfl | omega
noncomputable def c_RunC : ECon
 | [.ptr 0 0, .int .i64 l1, .agg [.ints .u32 15 R, .int .u32 pc, .bool z, .bool n, .bool l], .int .i64 fuel], [some ⟨120, [], 0, some (.own (.mem ps qs m))⟩] => some ([okS l1 ps.length qs.length 2000000000000000000 (ps, qs, m, R, pc, z, n, l), fuel <= 100000], [⟨none, .tup [.agg [.ints .u32 15 (rfR l1 (ps, qs, m, R, pc, z, n, l) fuel), .int .u32 (rfC l1 (ps, qs, m, R, pc, z, n, l) fuel), .bool (rfZ l1 (ps, qs, m, R, pc, z, n, l) fuel), .bool (rfN l1 (ps, qs, m, R, pc, z, n, l) fuel), .bool (rfL l1 (ps, qs, m, R, pc, z, n, l) fuel)], .agg [.int .i64 (rfK l1 (ps, qs, m, R, pc, z, n, l) fuel), .int .u32 (rfA l1 (ps, qs, m, R, pc, z, n, l) fuel)], .int .i64 (rfU l1 (ps, qs, m, R, pc, z, n, l) fuel), .int .i64 (rfE l1 (ps, qs, m, R, pc, z, n, l) fuel)], [some ⟨120, [], 0, some (.own (.mem (rfP l1 (ps, qs, m, R, pc, z, n, l) fuel) (rfQ l1 (ps, qs, m, R, pc, z, n, l) fuel) (rfMM l1 (ps, qs, m, R, pc, z, n, l) fuel)))⟩]⟩])
 | _, _ => none
theorem c_RunC_e : EEntry Tryd.prog 24 c_RunC := by
 refine ⟨callFunc_ok Tryd.func24 (by kernel_rfl) (by kernel_rfl), fun args rows ps alts h hp => ?_⟩
 unfold c_RunC at h
 split at h
 ·cases h; exact RunC_ok _ _ _ _ _ _ _ _ _ _ (hp _ (List.mem_of_getElem? (i := 0) rfl)) (hp _ (List.mem_of_getElem? (i := 1) rfl))
 ·cases h
end Go.Proofs.YtimjnajdpccjdaaDoor
