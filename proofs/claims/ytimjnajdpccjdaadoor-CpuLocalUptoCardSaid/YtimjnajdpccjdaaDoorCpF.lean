/- Package cpu: runs are steps. No condition beyond the arguments' types. -/
import Derived.Test.YtimjnajdpccjdaaDoorCpM
namespace Go.Proofs.YtimjnajdpccjdaaDoor
set_option linter.unusedVariables false
set_option linter.unusedSimpArgs false
open Go.RowKit Sx
set_option maxRecDepth 100000
set_option maxHeartbeats 8000000
abbrev Mch := List (List Int) × List (List Int) × Int × List Int × Int × Bool × Bool × Bool
noncomputable def nxM (l1 : Int) (s : Mch) : Mch := (spP s.1 s.2.1 l1 s.2.2.2.1 s.2.2.2.2.1 s.2.2.2.2.2.1 s.2.2.2.2.2.2.1 s.2.2.2.2.2.2.2, spQ s.1 s.2.1 l1 s.2.2.2.1 s.2.2.2.2.1 s.2.2.2.2.2.1 s.2.2.2.2.2.2.1 s.2.2.2.2.2.2.2, spM s.1 s.2.1 l1 s.2.2.2.1 s.2.2.2.2.1 s.2.2.2.2.2.1 s.2.2.2.2.2.2.1 s.2.2.2.2.2.2.2 s.2.2.1, spR s.1 s.2.1 l1 s.2.2.2.1 s.2.2.2.2.1 s.2.2.2.2.2.1 s.2.2.2.2.2.2.1 s.2.2.2.2.2.2.2, spC s.1 s.2.1 l1 s.2.2.2.1 s.2.2.2.2.1 s.2.2.2.2.2.1 s.2.2.2.2.2.2.1 s.2.2.2.2.2.2.2, spZ s.1 s.2.1 l1 s.2.2.2.1 s.2.2.2.2.1 s.2.2.2.2.2.1 s.2.2.2.2.2.2.1 s.2.2.2.2.2.2.2, spN s.1 s.2.1 l1 s.2.2.2.1 s.2.2.2.2.1 s.2.2.2.2.2.1 s.2.2.2.2.2.2.1 s.2.2.2.2.2.2.2, spL s.1 s.2.1 l1 s.2.2.2.1 s.2.2.2.2.1 s.2.2.2.2.2.1 s.2.2.2.2.2.2.1 s.2.2.2.2.2.2.2)
noncomputable def itM (l1 : Int) (s : Mch) : Nat → Mch
  | 0 => s
  | j + 1 => nxM l1 (itM l1 s j)
structure okS (l1 : Int) (a b : Nat) (lim : Int) (s : Mch) : Prop where
  f : wfF s.2.2.2.1 s.2.2.2.2.1
  l0 : InK .i64 l1
  m0 : 0 ≤ s.2.2.1
  m1 : s.2.2.1 ≤ lim
  p1 : wfP s.1
  p2 : wfP s.2.1
  e1 : s.1.length = a
  e2 : s.2.1.length = b
theorem okS.next {l1 : Int} {a b : Nat} {lim : Int} {s : Mch} (h : okS l1 a b lim s) (hl : lim ≤ 3000000000000000000) : okS l1 a b (lim + 6) (nxM l1 s) := by
  have := sp_ok (l1 := l1) (z := s.2.2.2.2.2.1) (n := s.2.2.2.2.2.2.1) (l := s.2.2.2.2.2.2.2) h.f ⟨h.l0, h.m0, by have := h.m1; omega, h.p1, h.p2⟩
  obtain ⟨g1, g2, g3, g4, g5, g6⟩ := this
  exact ⟨g1, h.l0, by have := h.m0; show 0 ≤ spM s.1 s.2.1 l1 s.2.2.2.1 s.2.2.2.2.1 s.2.2.2.2.2.1 s.2.2.2.2.2.2.1 s.2.2.2.2.2.2.2 s.2.2.1; omega, by have := h.m1; show spM s.1 s.2.1 l1 s.2.2.2.1 s.2.2.2.2.1 s.2.2.2.2.2.1 s.2.2.2.2.2.2.1 s.2.2.2.2.2.2.2 s.2.2.1 ≤ lim + 6; omega, g2.1, g2.2, g3.1.trans h.e1, g3.2.trans h.e2⟩
theorem okS.it {l1 : Int} {a b : Nat} {lim : Int} {s : Mch} (h : okS l1 a b lim s) : ∀ j : Nat, lim + 6 * (j : Int) ≤ 3000000000000000000 → okS l1 a b (lim + 6 * (j : Int)) (itM l1 s j)
  | 0, _ => ⟨h.f, h.l0, h.m0, by have := h.m1; show s.2.2.1 ≤ _; omega, h.p1, h.p2, h.e1, h.e2⟩
  | j + 1, hj => by
    have := (okS.it h j (by omega)).next (by omega)
    have e : lim + 6 * ((j + 1 : Nat) : Int) = lim + 6 * (j : Int) + 6 := by omega
    rw [e]
    exact this
end Go.Proofs.YtimjnajdpccjdaaDoor
