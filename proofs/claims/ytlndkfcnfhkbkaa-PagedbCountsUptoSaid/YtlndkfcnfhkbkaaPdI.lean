/- Words that are a database's, and Load of them. No condition beyond sizes. -/
import Derived.Test.YtlndkfcnfhkbkaaPdH
namespace Go.Proofs.Ytlndkfcnfhkbkaa
open Go.RowKit Sx
set_option linter.unusedVariables false
set_option linter.unusedSimpArgs false
set_option maxRecDepth 100000
set_option maxHeartbeats 8000000
theorem okD_enc (t o r s : Int) (n : Bool) : okD (nW t o r s n) (nR t o r s n) = true := by
  rw [nW_eq, nR_eq]
  by_cases h : goodB t o r s n = true
  · have g := goodB_iff.1 h
    unfold goodE at g
    obtain ⟨g1, g2, g3, g4, g5, g6, g7⟩ := g
    have gs : 0 ≤ s ∧ s ≤ 3 := by omega
    have e : ∀ x : Int, zB (goodB t o r s n) x = x := fun x => zB_t h
    rw [e, e]
    have w8 : wordE t o s n % 8 = t := by unfold wordE; cases n <;> simp <;> omega
    have w16 : wordE t o s n / 16 % 4 = s := by unfold wordE; cases n <;> simp <;> omega
    have w65 : wordE t o s n / 65536 % 64 = o := by unfold wordE; cases n <;> simp <;> omega
    have w256 : (wordE t o s n / 256 % 2 == 1) = n := by unfold wordE; cases n <;> simp <;> omega
    have v64 : r % 64 = r := by omega
    unfold okD
    rw [w8, w16, w65, w256, v64, h]
    simp
  · have h : goodB t o r s n = false := by simpa using h
    have e : ∀ x : Int, zB (goodB t o r s n) x = 0 := fun x => zB_f h
    rw [e, e]
    decide
theorem dO_enc (t o r s : Int) (n : Bool) : dO (nW t o r s n) (nR t o r s n) = zB (goodB t o r s n) o := by
  rw [dO_eq, okD_enc, zB_t rfl, nW_eq]
  by_cases h : goodB t o r s n = true
  · have g := goodB_iff.1 h
    unfold goodE at g
    obtain ⟨g1, g2, g3, g4, g5, g6, g7⟩ := g
    have gs : 0 ≤ s ∧ s ≤ 3 := by omega
    rw [zB_t h, zB_t h]
    unfold wordE; cases n <;> simp <;> omega
  · have h : goodB t o r s n = false := by simpa using h
    rw [zB_f h, zB_f h]
    decide
structure okWs (n : Nat) (ws : List Int) : Prop where
  out : ∀ p : Nat, p < n → okD (ws.getD (2 * p) 0) (ws.getD (2 * p + 1) 0) = true ∧ dO (ws.getD (2 * p) 0) (ws.getD (2 * p + 1) 0) < (n : Int)
theorem gO_nat (ws : List Int) (p : Nat) : gO ws (p : Int) = dO (ws.getD (2 * p) 0) (ws.getD (2 * p + 1) 0) := by
  rw [gO_eq]
  congr 2
theorem getD_set2 (ws : List Int) (k j : Nat) (a c : Int) (hk : k + 1 < ws.length) : ((ws.set k a).set (k + 1) c).getD j 0 = if j = k then a else if j = k + 1 then c else ws.getD j 0 := by
  simp only [List.getD_eq_getElem?_getD]
  by_cases h1 : j = k + 1
  · subst h1
    rw [List.getElem?_set_self (by simpa using hk), if_neg (by omega), if_pos rfl]
    rfl
  · rw [List.getElem?_set_ne (by omega)]
    by_cases h2 : j = k
    · subst h2
      rw [List.getElem?_set_self (by omega), if_pos rfl]
      rfl
    · rw [List.getElem?_set_ne (by omega), if_neg h2, if_neg h1]
theorem okWs.set {n : Nat} {ws : List Int} (h : okWs n ws) (hl : ws.length = 2 * n) {p t o r s : Int} {nn : Bool} (hp : 0 ≤ p ∧ p < n) (ho : o < n) : okWs n (sW ws p t o r s nn) := ⟨fun q hq => by
  have e : sW ws p t o r s nn = (ws.set (2 * p.toNat) (nW t o r s nn)).set (2 * p.toNat + 1) (nR t o r s nn) := by
    rw [sW_eq, show (2 * p).toNat = 2 * p.toNat by omega, show (2 * p + 1).toNat = 2 * p.toNat + 1 by omega]
  rw [e, getD_set2 _ _ _ _ _ (by omega), getD_set2 _ _ _ _ _ (by omega)]
  by_cases hqp : q = p.toNat
  · subst hqp
    rw [if_pos rfl, if_neg (by omega), if_pos rfl]
    refine ⟨okD_enc _ _ _ _ _, ?_⟩
    rw [dO_enc]
    unfold zB
    split <;> omega
  · rw [if_neg (by omega), if_neg (by omega), if_neg (by omega), if_neg (by omega)]
    exact h.out q hq⟩
theorem okWs.zero (n : Nat) (hn : 0 < n) : okWs n (List.replicate (2 * n) 0) := ⟨fun p hp => by
  have e : ∀ j, (List.replicate (2 * n) (0 : Int)).getD j 0 = 0 := fun j => by
    rw [List.getD_eq_getElem?_getD, List.getElem?_replicate]; split <;> rfl
  rw [e, e, dO_eq]
  have : okD 0 0 = true := by decide
  rw [this]
  refine ⟨rfl, ?_⟩
  simp [zB]
  omega⟩
end Go.Proofs.Ytlndkfcnfhkbkaa
