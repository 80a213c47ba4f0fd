/- From a contract to a law's frame: arguments opened, the call. No condition. -/
import Derived.Test.YtmmejomalfjcnaaSxUse
import Derived.Test.YtmmejomalfjcnaaOpen
import Derived.Below
namespace Go.Proofs.Ytmmejomalfjcnaa
open Go.RowKit
set_option linter.unusedVariables false
theorem InK_of_wf {k : IntKind} {x : Int} (h : (Lit.int k x).wf = true) : Sx.InK k x := by
  cases k <;> simp [Lit.wf, IntKind.min, IntKind.max, IntKind.signed, IntKind.bits, Sx.InK] at * <;> omega

theorem fits_i {k : IntKind} {ks : List FT} {c : List Value} (h : Fits (some k :: ks) c) : ∃ x c', c = .int k x :: c' ∧ Sx.InK k x ∧ Fits ks c' := by
  cases c with
  | nil => exact h.elim
  | cons a c' => exact h.1.elim fun x q => ⟨x, c', by rw [q.1], InK_of_wf q.2, h.2⟩
theorem fits_b {ks : List FT} {c : List Value} (h : Fits (none :: ks) c) : ∃ x c', c = .bool x :: c' ∧ Fits ks c' := by
  cases c with
  | nil => exact h.elim
  | cons a c' => exact h.1.elim fun x q => ⟨x, c', by rw [q], h.2⟩
theorem fits_e {c : List Value} (h : Fits [] c) : c = [] := by
  cases c with
  | nil => rfl
  | cons a b => exact h.elim
theorem fits_r {k : IntKind} : ∀ (n : Nat) {ks : List FT} {c : List Value}, Fits (List.replicate n (some k) ++ ks) c → ∃ xs c', c = Sx.intCells k n xs ++ c' ∧ xs.length = n ∧ (∀ x ∈ xs, Sx.InK k x) ∧ Fits ks c'
  | 0, ks, c, h => ⟨[], c, by simp [Sx.intCells], rfl, by simp, by simpa using h⟩
  | n + 1, ks, c, h => by
    obtain ⟨x, c1, rfl, hx, h1⟩ := fits_i (ks := List.replicate n (some k) ++ ks) h
    obtain ⟨xs, c2, rfl, hl, hr, h2⟩ := fits_r n h1
    refine ⟨x :: xs, c2, ?_, by simp [hl], ?_, h2⟩
    · simp [Sx.intCells, List.range_succ_eq_map, Function.comp_def]
    · intro y hy
      rcases List.mem_cons.mp hy with rfl | hy
      · exact hx
      · exact hr y hy

/-- A contract, as a law wants it. -/
theorem pure_law {P : Program} {f : FuncId} {args : List Sx.SV} {v : Sx.SV} (h : Sx.PureSem P f args v) (W : World) (hg : Sx.Globs W fun _ => False) (ha : Sx.okdL W (fun _ => False) 0 args) :
    Calls P f (Sx.denL Sx.Num.zero args).toArray W fun e w' => e = .returned (Sx.den Sx.Num.zero v) ∧ Below W.heap.size W w' := by
  obtain ⟨_, _, g⟩ := h W (fun _ => False) Sx.Num.zero [] W ⟨Sx.Frm.refl _ _, hg, fun i r h => by simp at h, fun i j r q h => by simp at h, fun i r h => by simp at h⟩ ha
  exact g.mono fun e w' ⟨h1, h2⟩ => ⟨h1, h2.os, h2.tape, h2.output, h2.size, fun k hk => h2.block k hk id⟩
end Go.Proofs.Ytmmejomalfjcnaa
