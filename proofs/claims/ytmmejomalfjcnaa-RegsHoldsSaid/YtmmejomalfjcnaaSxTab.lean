/- The table of types that the executor uses, held against the program's own. No condition. -/
import Derived.Test.YtmmejomalfjcnaaSxCells
import Derived.ChangeKeysEq
import Derived.Test.YtmmejomalfjcnaaSxEq
namespace Go.Proofs.Ytmmejomalfjcnaa
open Go.RowKit
set_option linter.unusedVariables false
set_option linter.unusedSimpArgs false
namespace Sx

def plain : SV → Bool
  | .lit _ _ | .int _ _ | .litb _ | .bool _ | .str _ | .val _ | .hnd _ | .gp _ _ | .ints _ _ _ => true
  | _ => false
def plainL : List SV → Bool
  | [] => true
  | c :: cs => plain c && plainL cs
theorem plain_den {c : SV} (h : plain c = true) (ρ ρ' : Num) : den ρ c = den ρ' c := by cases c <;> first | rfl | simp [plain] at h
theorem plain_okd {c : SV} (h : plain c = true) (W : World) (F : Nat → Prop) (n : Nat) : okd W F n c := by cases c <;> first | trivial | simp [plain] at h
theorem plainL_okd (W : World) (F : Nat → Prop) (n : Nat) : ∀ {l : List SV}, plainL l = true → okdL W F n l
  | [], _ => trivial
  | c :: cs, h => by simp [plainL] at h; exact ⟨plain_okd h.1 W F n, plainL_okd W F n h.2⟩
theorem plainL_cells (ρ ρ' : Num) : ∀ {l : List SV}, plainL l = true → cellsL ρ l = cellsL ρ' l
  | [], _ => rfl
  | c :: cs, h => by
    simp [plainL] at h
    have ih := plainL_cells ρ ρ' h.2
    cases c <;> simp_all [cellsL, den, plain]
theorem plain_noTop : ∀ {l : List SV}, plainL l = true → noTop l = true
  | [], _ => rfl
  | c :: cs, h => by
    simp [plainL] at h
    have ih := plain_noTop h.2
    cases c <;> simp_all [noTop, plain]

def isAggD : TypeDesc → Bool
  | .struct _ | .array _ _ => true
  | _ => false
def DescOK : TypeDesc → TyD → Prop
  | .int k, .int k' => k = k'
  | .bool, .bool => True
  | .string, .str => True
  | .struct fs, .st l => fs.toList.map (fun f => (f.offset, f.type)) = l
  | .array n e, .arr n' e' => n = n' ∧ e = e'
  | .slice e, .sl e' => e = e'
  | .pointer e, .ptr e' => e = e'
  | _, .other => True
  | _, _ => False

structure TyOK (P : Program) (t : TypeId) (i : TyI) : Prop where
  info : ∃ it z, P.info? t = some it ∧ it.size = i.size ∧ it.bytes = i.bytes ∧ it.zero = some z ∧ z.cells.toList = cellsL Num.zero i.zero ∧ z = (if i.agg then .agg z.cells else z.cells.toList.headD undef)
  zero : plainL i.zero = true
  desc : ∃ d, P.underlying t = some d ∧ isAggD d = i.agg ∧ DescOK d i.d
  guard : i.flat ≠ none → P.eqGuardType P.depth t = false
  flat : ∀ ks, i.flat = some ks → isAggT P t = true ∧ ∃ n, flatAt P n t = some ks ∧ n ≤ Op.maxDepth

def TabOK (P : Program) (T : Tab) : Prop := ∀ t i, T.at t = some i → TyOK P t i

section
variable {P : Program} {T : Tab}
theorem TyOK.run_size {t : TypeId} {i : TyI} (h : TyOK P t i) (w : World) : (sizeOf t).run P w = .ok i.size w := by
  obtain ⟨it, z, h1, h2, _⟩ := h.info
  simp [sizeOf, typeInfo, h1, h2]
theorem TyOK.run_agg {t : TypeId} {i : TyI} (h : TyOK P t i) (w : World) : (isAgg t).run P w = .ok i.agg w := by
  obtain ⟨d, h1, h2, _⟩ := h.desc
  cases d <;> simp_all [isAgg, run_underlying h1, isAggD]
theorem TyOK.run_zero {t : TypeId} {i : TyI} (h : TyOK P t i) (w : World) (ρ : Num) : ∃ z, (zeroValue t).run P w = .ok z w ∧ z.cells.toList = cellsL ρ i.zero := by
  obtain ⟨it, z, h1, h2, _, h3, h4, _⟩ := h.info
  exact ⟨z, by simp [zeroValue, typeInfo, h1, h3], by rw [h4]; exact plainL_cells _ _ h.zero⟩

/-- Cells that may be stored. -/
theorem cellB_one {W : World} {F : Nat → Prop} {n : Nat} {ρ : Num} {c : SV} (h : cellB c = true) (hs : single c = true) (ho : okd W F n c) : (den ρ c).oneCell' = true := by
  cases c <;> first | rfl | (simp [cellB] at h; done) | (simp [single] at hs; done) | skip
  · exact h
  · simp only [den, listV]; split <;> rfl
  · rename_i k v xs
    rcases ho with ⟨a, cap, rfl, _⟩ | ⟨b, off, cap, rfl, _⟩ <;> rfl
  · rename_i k v xs e
    obtain ⟨ho, h0, h1⟩ := ho
    rcases ho with ⟨a, cap, rfl, rfl, _⟩ | ⟨b, off, cap, rfl, _⟩
    · simp at h1; omega
    · rfl
  · rename_i sz v n f
    rcases ho.1.2 with ⟨a, cap, rfl, _⟩ | ⟨b, off, cap, rfl, _⟩ <;> rfl
  · rename_i sz v n f e o
    obtain ⟨⟨ho, _⟩, h0, h1, h2⟩ := ho
    rcases ho.2 with ⟨a, cap, rfl, rfl, _⟩ | ⟨b, off, cap, rfl, _⟩
    · simp at h1; omega
    · rfl
theorem cellsB_one {W : World} {F : Nat → Prop} {n : Nat} {ρ : Num} : ∀ {l : List SV}, cellsB l = true → okdL W F n l → ∀ x ∈ cellsL ρ l, x.oneCell' = true
  | [], _, _, x, hx => by cases hx
  | c :: cs, h, ho, x, hx => by
    simp [cellsB] at h
    cases hc : single c with
    | true =>
      rw [cellsL_one hc] at hx
      rcases List.mem_cons.1 hx with rfl | hx
      · exact cellB_one h.1 hc ho.1
      · exact cellsB_one h.2 ho.2 x hx
    | false =>
      cases c <;> simp [single] at hc <;> simp [cellB] at h
      simp only [cellsL, List.mem_append] at hx
      rcases hx with hx | hx
      · simp only [intCells, List.mem_map] at hx
        obtain ⟨j, _, rfl⟩ := hx
        rfl
      · exact cellsB_one h ho.2 x hx
theorem valueCells_ok {W : World} {F : Nat → Prop} {n : Nat} {ρ : Num} {v : SV} {l : List SV} (h : valueCells v = some l) (ho : okd W F n v) :
    (den ρ v).cells.toList = cellsL ρ l ∧ okdL W F n l ∧ cellsB l = true := by
  have key : ∀ (c : SV), single c = true → (∀ cs, c ≠ .agg cs) → cellB c = true → okd W F n c → (den ρ c).cells.toList = cellsL ρ [c] ∧ okdL W F n [c] ∧ cellsB [c] = true := by
    intro c hs hna hb ho
    have h1 := cellB_one (ρ := ρ) hb hs ho
    refine ⟨?_, ⟨ho, trivial⟩, by simp [cellsB, hb]⟩
    rw [cellsL_one hs]
    cases hd : den ρ c <;> simp_all [Value.cells, Value.oneCell', cellsL]
  cases v with
  | agg cs =>
    simp only [valueCells] at h
    rcases cond_some h with ⟨e, h⟩ | ⟨e, h⟩ <;> cases h
    exact ⟨by simp [den, Value.cells], ho, e⟩
  | ints k m xs => simp [valueCells] at h
  | top => simp [valueCells, cellB] at h
  | tup cs => simp [valueCells, cellB] at h
  | _ =>
    simp only [valueCells] at h
    rcases cond_some h with ⟨e, h⟩ | ⟨e, h⟩ <;> cases h
    exact key _ rfl (fun cs hh => by cases hh) e ho
end
end Sx
end Go.Proofs.Ytmmejomalfjcnaa
