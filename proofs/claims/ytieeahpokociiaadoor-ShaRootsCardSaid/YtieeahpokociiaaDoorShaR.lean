/- Long products, roots bit by bit: the document's reckoning. No condition beyond lengths. -/
import Derived.Test.YtieeahpokociiaaDoorShaAbc
import Derived.Test.YtieeahpokociiaaDoorShaW
namespace Go.Proofs.YtieeahpokociiaaDoor
open Go.RowKit Sx
set_option linter.unusedVariables false
set_option linter.unusedSimpArgs false
set_option maxRecDepth 100000
set_option maxHeartbeats 4000000
theorem wmod64 (x : Int) : IntKind.u64.wrap x = x % 18446744073709551616 := by
  unfold IntKind.wrap
  simp [IntKind.bits, IntKind.signed]
theorem tJ_len (l : List Int) (y : Int) (i : Nat) : ∀ (j : Nat) (p : List Int), (tJ l y i j p).length = p.length
  | 0, p => rfl
  | j + 1, p => by simp only [tJ, List.length_set]; exact tJ_len l y i j p
theorem tI_len (l : List Int) (y : Int) : ∀ i, (tI l y i).length = l.length + 3
  | 0 => by simp [tI]
  | i + 1 => by simp only [tI, tJ_len]; exact tI_len l y i
theorem tC_len (p : List Int) : ∀ i, (tC p i).length = p.length
  | 0 => rfl
  | i + 1 => by simp only [tC, List.length_set]; exact tC_len p i
theorem times_len (l : List Int) (y : Int) : (timesS l y).length = l.length + 3 := by unfold timesS; rw [tC_len, tI_len]
def inM (p : List Int) : Prop := ∀ i, 0 ≤ p.getD i 0 ∧ p.getD i 0 < 18446744073709551616
theorem inM_set {p : List Int} (h : inM p) (k : Nat) {x : Int} (hx : 0 ≤ x ∧ x < 18446744073709551616) : inM (p.set k x) := fun i => by
  rw [List.getD_eq_getElem?_getD, List.getElem?_set]
  split
  · split
    · exact hx
    · simp
  · rw [← List.getD_eq_getElem?_getD]; exact h i
theorem inM_zero (n : Nat) : inM (List.replicate n 0) := fun i => by
  rw [List.getD_eq_getElem?_getD, List.getElem?_replicate]
  split <;> simp
theorem inM_tJ (l : List Int) (y : Int) (i : Nat) {p : List Int} (h : inM p) : ∀ j, inM (tJ l y i j p)
  | 0 => h
  | j + 1 => by
    have ih := inM_tJ l y i h j
    simp only [tJ]
    exact inM_set ih _ ⟨by omega, by omega⟩
theorem inM_tI (l : List Int) (y : Int) : ∀ i, inM (tI l y i)
  | 0 => inM_zero _
  | i + 1 => inM_tJ l y i (inM_tI l y i) 3
theorem inM_tC {p : List Int} (h : inM p) : ∀ i, inM (tC p i)
  | 0 => h
  | i + 1 => by
    have ih := inM_tC h i
    simp only [tC]
    have h1 := inM_set ih (i + 1) (x := ((tC p i).getD (i + 1) 0 + (tC p i).getD i 0 / 65536) % 18446744073709551616) ⟨by omega, by omega⟩
    exact inM_set h1 _ ⟨by omega, by omega⟩
noncomputable def pt_Ra : List (Nat × (List SV → Option (List Prop × SV))) := []
theorem pt_Ra_ok : PureOK Tryd.prog (fun f => List.lookup f pt_Ra) := pure_list pt_Ra trivial
noncomputable abbrev cx_Ra (must : Nat → Option Bool := fun _ => none) (loop : Nat → SS → Option LoopSpec := fun _ _ => none) : Ctx := ⟨tab, inl tab (fun f => List.lookup f pt_Ra) fns (fun _ => {}) 1000 4, fun f => List.lookup f pt_Ra, must, loop, 0, 0, fun _ => none⟩
theorem cx_Ra_ok (must : Nat → Option Bool) (loop : Nat → SS → Option LoopSpec) : CxOK Tryd.prog (cx_Ra must loop) := inl_ok mixed tab_ok pt_Ra_ok fns_ok 4 _ _ _ _
theorem times_ok (v : Value) (l : List Int) (y : Int) (h0 : l.length ≤ 1000) (h1 : 0 ≤ y) : SemCall Tryd.prog 53 [.rd .u64 v l, .int .u64 y] [] (AltK [⟨none, .on 0 (l.length + 3) true, [some ⟨68, [.ints .u64 (l.length + 3) (timesS l y)], 1, none⟩]⟩]) := by
  refine con_intro mixed (cx_Ra_ok (fun _ => none) (fun q s => bif Nat.beq q 3 then some ⟨Nat, fun k => ⟨[(0, .rd .u64 v l), (1, .int .u64 y), (5, .on 0 k true), (6, .int .i64 (k : Int))], [some ⟨68, [.ints .u64 k (List.replicate k 0)], 1, none⟩]⟩, fun k => k ≤ l.length + 3, fun k => l.length + 3 - k⟩ else bif Nat.beq q 7 then some ⟨Nat, fun k => ⟨[(0, .rd .u64 v l), (1, .int .u64 y), (5, .on 0 (l.length + 3) true), (7, .int .i64 (k : Int))], [some ⟨68, [.ints .u64 (l.length + 3) (tI l y k)], 1, none⟩]⟩, fun k => k ≤ l.length, fun k => l.length - k⟩ else bif Nat.beq q 10 then some ⟨Nat, fun k => ⟨[(0, .rd .u64 v l), (1, .int .u64 y), (5, .on 0 (l.length + 3) true), (7, .int .i64 (tmI s 7)), (8, .int .i64 (k : Int))], [some ⟨68, [.ints .u64 (l.length + 3) (tJ l y (tmI s 7).toNat k (tI l y (tmI s 7).toNat))], 1, none⟩]⟩, fun k => k ≤ 3, fun k => 3 - k⟩ else bif Nat.beq q 14 then some ⟨Nat, fun k => ⟨[(0, .rd .u64 v l), (1, .int .u64 y), (5, .on 0 (l.length + 3) true), (9, .int .i64 (k : Int))], [some ⟨68, [.ints .u64 (l.length + 3) (tC (tI l y l.length) k)], 1, none⟩]⟩, fun k => k ≤ l.length + 2, fun k => l.length + 2 - k⟩ else none)) Tryd.func53 1000 ?_
  refine of_nf (p := ∃ (x : Nat), (((v = v ∧ l = l) ∧ y = y ∧ ((0 : Nat) = x ∧ true = true) ∧ (0 : Int) = ((x : Nat) : Int) ∧ True) ∧ ((68 : TypeId) = (68 : TypeId) ∧ (1 : Nat) = (1 : Nat) ∧ @Bool.rec (fun _ => Prop) False ([] = List.replicate x (0 : Int)) (true && Nat.beq (0 : Nat) x) ∧ True) ∧ True) ∧ x.le (l.length + (3 : Nat)) ∧ ∀ (x : Nat), x.le (l.length + (3 : Nat)) → ((-9223372036854775808 : Int) ≤ ((l.length : Nat) : Int) + (3 : Int) ∧ ((l.length : Nat) : Int) + (3 : Int) < (9223372036854775808 : Int)) ∧ (decide (((x : Nat) : Int) < ((l.length : Nat) : Int) + (3 : Int)) = true → x = x ∧ (List.replicate x (0 : Int)).length = x ∧ x + (1 : Nat) ≤ (68719476736 : Nat) ∧ ((-9223372036854775808 : Int) ≤ ((x : Nat) : Int) + (1 : Int) ∧ ((x : Nat) : Int) + (1 : Int) < (9223372036854775808 : Int)) ∧ ∃ (y_1 : Nat), (((v = v ∧ l = l) ∧ y = y ∧ (x + (1 : Nat) = y_1 ∧ true = true) ∧ ((x : Nat) : Int) + (1 : Int) = ((y_1 : Nat) : Int) ∧ True) ∧ (nat_lit 67 + (1 : Nat) = (68 : TypeId) ∧ nat_lit 0 + (1 : Nat) = (1 : Nat) ∧ @Bool.rec (fun _ => Prop) False ((List.replicate x (0 : Int)).append [(0 : Int)] = List.replicate y_1 (0 : Int)) (true && (x + (1 : Nat)).beq y_1) ∧ True) ∧ True) ∧ y_1.le (l.length + (3 : Nat)) ∧ l.length + (3 : Nat) - y_1 < l.length + (3 : Nat) - x) ∧ (decide (((x : Nat) : Int) < ((l.length : Nat) : Int) + (3 : Int)) = false → ∃ (x_1 : Nat), (((v = v ∧ l = l) ∧ y = y ∧ (x = l.length + (3 : Nat) ∧ true = true) ∧ (0 : Int) = ((x_1 : Nat) : Int) ∧ True) ∧ ((68 : TypeId) = (68 : TypeId) ∧ (1 : Nat) = (1 : Nat) ∧ @Bool.rec (fun _ => Prop) False (List.replicate x (0 : Int) = tI l y x_1) (true && x.beq (l.length + (3 : Nat))) ∧ True) ∧ True) ∧ x_1.le l.length ∧ ∀ (x : Nat), x.le l.length → (decide (((x : Nat) : Int) < ((l.length : Nat) : Int)) = true → ∃ (x_2 : Nat), (((v = v ∧ l = l) ∧ y = y ∧ (l.length + (3 : Nat) = l.length + (3 : Nat) ∧ true = true) ∧ ((x : Nat) : Int) = ((x : Nat) : Int) ∧ (0 : Int) = ((x_2 : Nat) : Int) ∧ True) ∧ ((68 : TypeId) = (68 : TypeId) ∧ (1 : Nat) = (1 : Nat) ∧ @Bool.rec (fun _ => Prop) False (tI l y x = tJ l y (((x : Nat) : Int)).toNat x_2 (tI l y (((x : Nat) : Int)).toNat)) (true && (l.length + (3 : Nat)).beq (l.length + (3 : Nat))) ∧ True) ∧ True) ∧ x_2.le (3 : Nat) ∧ ∀ (x_3 : Nat), x_3.le (3 : Nat) → (decide (((x_3 : Nat) : Int) < (3 : Int)) = true → ((-9223372036854775808 : Int) ≤ ((x : Nat) : Int) + ((x_3 : Nat) : Int) ∧ ((x : Nat) : Int) + ((x_3 : Nat) : Int) < (9223372036854775808 : Int)) ∧ ((-9223372036854775808 : Int) ≤ ((x : Nat) : Int) + ((x_3 : Nat) : Int) ∧ ((x : Nat) : Int) + ((x_3 : Nat) : Int) < (9223372036854775808 : Int)) ∧ (0 : Int) ≤ ((x : Nat) : Int) + ((x_3 : Nat) : Int) ∧ ((x : Nat) : Int) + ((x_3 : Nat) : Int) < (((l.length + (3 : Nat)) : Nat) : Int) ∧ (((x : Nat) : Int) + ((x_3 : Nat) : Int)).toNat < l.length + (3 : Nat) + (0 : Nat) ∧ (0 : Int) ≤ ((x : Nat) : Int) + ((x_3 : Nat) : Int) ∧ ((x : Nat) : Int) + ((x_3 : Nat) : Int) < (((l.length + (3 : Nat)) : Nat) : Int) ∧ (0 : Int) ≤ ((x : Nat) : Int) ∧ ((x : Nat) : Int) < ((l.length : Nat) : Int) ∧ ((-9223372036854775808 : Int) ≤ (16 : Int) * ((x_3 : Nat) : Int) ∧ (16 : Int) * ((x_3 : Nat) : Int) < (9223372036854775808 : Int)) ∧ (0 : Int) ≤ IntKind.u64.wrap ((16 : Int) * ((x_3 : Nat) : Int)) ∧ (0 : Int) ≤ y / (2 : Int) ^ (IntKind.u64.wrap ((16 : Int) * ((x_3 : Nat) : Int))).toNat.min (64 : Nat) ∧ (0 : Int) ≤ ((x : Nat) : Int) + ((x_3 : Nat) : Int) ∧ ((x : Nat) : Int) + ((x_3 : Nat) : Int) < (((l.length + (3 : Nat)) : Nat) : Int) ∧ (((x : Nat) : Int) + ((x_3 : Nat) : Int)).toNat < l.length + (3 : Nat) + (0 : Nat) ∧ (0 : Int) ≤ ((x : Nat) : Int) + ((x_3 : Nat) : Int) ∧ ((x : Nat) : Int) + ((x_3 : Nat) : Int) < (((l.length + (3 : Nat)) : Nat) : Int) ∧ (tJ l y (((x : Nat) : Int)).toNat x_3 (tI l y (((x : Nat) : Int)).toNat)).length = l.length + (3 : Nat) ∧ ((-9223372036854775808 : Int) ≤ ((x_3 : Nat) : Int) + (1 : Int) ∧ ((x_3 : Nat) : Int) + (1 : Int) < (9223372036854775808 : Int)) ∧ ∃ (y_1 : Nat), (((v = v ∧ l = l) ∧ y = y ∧ (l.length + (3 : Nat) = l.length + (3 : Nat) ∧ true = true) ∧ ((x : Nat) : Int) = ((x : Nat) : Int) ∧ ((x_3 : Nat) : Int) + (1 : Int) = ((y_1 : Nat) : Int) ∧ True) ∧ (nat_lit 67 + (1 : Nat) = (68 : TypeId) ∧ nat_lit 0 + (1 : Nat) = (1 : Nat) ∧ @Bool.rec (fun _ => Prop) False ((tJ l y (((x : Nat) : Int)).toNat x_3 (tI l y (((x : Nat) : Int)).toNat)).set (((x : Nat) : Int) + ((x_3 : Nat) : Int)).toNat (IntKind.u64.wrap ((tJ l y (((x : Nat) : Int)).toNat x_3 (tI l y (((x : Nat) : Int)).toNat)).getD (((x : Nat) : Int) + ((x_3 : Nat) : Int)).toNat (0 : Int) + IntKind.u64.wrap (l.getD (((x : Nat) : Int)).toNat (0 : Int) * (y / (2 : Int) ^ (IntKind.u64.wrap ((16 : Int) * ((x_3 : Nat) : Int))).toNat.min (64 : Nat) % (65536 : Int))))) = tJ l y (((x : Nat) : Int)).toNat y_1 (tI l y (((x : Nat) : Int)).toNat)) (true && (l.length + (3 : Nat)).beq (l.length + (3 : Nat))) ∧ True) ∧ True) ∧ y_1.le (3 : Nat) ∧ (3 : Nat) - y_1 < (3 : Nat) - x_3) ∧ (decide (((x_3 : Nat) : Int) < (3 : Int)) = false → ((-9223372036854775808 : Int) ≤ ((x : Nat) : Int) + (1 : Int) ∧ ((x : Nat) : Int) + (1 : Int) < (9223372036854775808 : Int)) ∧ ∃ (y_1 : Nat), (((v = v ∧ l = l) ∧ y = y ∧ (l.length + (3 : Nat) = l.length + (3 : Nat) ∧ true = true) ∧ ((x : Nat) : Int) + (1 : Int) = ((y_1 : Nat) : Int) ∧ True) ∧ ((68 : TypeId) = (68 : TypeId) ∧ (1 : Nat) = (1 : Nat) ∧ @Bool.rec (fun _ => Prop) False (tJ l y (((x : Nat) : Int)).toNat x_3 (tI l y (((x : Nat) : Int)).toNat) = tI l y y_1) (true && (l.length + (3 : Nat)).beq (l.length + (3 : Nat))) ∧ True) ∧ True) ∧ y_1.le l.length ∧ l.length - y_1 < l.length - x)) ∧ (decide (((x : Nat) : Int) < ((l.length : Nat) : Int)) = false → ∃ (x_2 : Nat), (((v = v ∧ l = l) ∧ y = y ∧ (l.length + (3 : Nat) = l.length + (3 : Nat) ∧ true = true) ∧ (0 : Int) = ((x_2 : Nat) : Int) ∧ True) ∧ ((68 : TypeId) = (68 : TypeId) ∧ (1 : Nat) = (1 : Nat) ∧ @Bool.rec (fun _ => Prop) False (tI l y x = tC (tI l y l.length) x_2) (true && (l.length + (3 : Nat)).beq (l.length + (3 : Nat))) ∧ True) ∧ True) ∧ x_2.le (l.length + (2 : Nat)) ∧ ∀ (x : Nat), x.le (l.length + (2 : Nat)) → ((-9223372036854775808 : Int) ≤ ((x : Nat) : Int) + (1 : Int) ∧ ((x : Nat) : Int) + (1 : Int) < (9223372036854775808 : Int)) ∧ (decide (((x : Nat) : Int) + (1 : Int) < (((l.length + (3 : Nat)) : Nat) : Int)) = true → ((-9223372036854775808 : Int) ≤ ((x : Nat) : Int) + (1 : Int) ∧ ((x : Nat) : Int) + (1 : Int) < (9223372036854775808 : Int)) ∧ ((-9223372036854775808 : Int) ≤ ((x : Nat) : Int) + (1 : Int) ∧ ((x : Nat) : Int) + (1 : Int) < (9223372036854775808 : Int)) ∧ (0 : Int) ≤ ((x : Nat) : Int) + (1 : Int) ∧ ((x : Nat) : Int) + (1 : Int) < (((l.length + (3 : Nat)) : Nat) : Int) ∧ (((x : Nat) : Int) + (1 : Int)).toNat < l.length + (3 : Nat) + (0 : Nat) ∧ (0 : Int) ≤ ((x : Nat) : Int) + (1 : Int) ∧ ((x : Nat) : Int) + (1 : Int) < (((l.length + (3 : Nat)) : Nat) : Int) ∧ (0 : Int) ≤ ((x : Nat) : Int) ∧ ((x : Nat) : Int) < (((l.length + (3 : Nat)) : Nat) : Int) ∧ (((x : Nat) : Int)).toNat < l.length + (3 : Nat) + (0 : Nat) ∧ (0 : Int) ≤ ((x : Nat) : Int) ∧ ((x : Nat) : Int) < (((l.length + (3 : Nat)) : Nat) : Int) ∧ ((0 : Int) ≤ (tC (tI l y l.length) x).getD (((x : Nat) : Int)).toNat (0 : Int) ∧ (tC (tI l y l.length) x).getD (((x : Nat) : Int)).toNat (0 : Int) < (18446744073709551616 : Int)) ∧ (0 : Int) ≤ ((x : Nat) : Int) + (1 : Int) ∧ ((x : Nat) : Int) + (1 : Int) < (((l.length + (3 : Nat)) : Nat) : Int) ∧ (((x : Nat) : Int) + (1 : Int)).toNat < l.length + (3 : Nat) + (0 : Nat) ∧ (0 : Int) ≤ ((x : Nat) : Int) + (1 : Int) ∧ ((x : Nat) : Int) + (1 : Int) < (((l.length + (3 : Nat)) : Nat) : Int) ∧ (tC (tI l y l.length) x).length = l.length + (3 : Nat) ∧ (0 : Int) ≤ ((x : Nat) : Int) ∧ ((x : Nat) : Int) < (((l.length + (3 : Nat)) : Nat) : Int) ∧ (((x : Nat) : Int)).toNat < l.length + (3 : Nat) + (0 : Nat) ∧ (0 : Int) ≤ ((x : Nat) : Int) ∧ ((x : Nat) : Int) < (((l.length + (3 : Nat)) : Nat) : Int) ∧ (0 : Int) ≤ ((tC (tI l y l.length) x).set (((x : Nat) : Int) + (1 : Int)).toNat (IntKind.u64.wrap ((tC (tI l y l.length) x).getD (((x : Nat) : Int) + (1 : Int)).toNat (0 : Int) + (tC (tI l y l.length) x).getD (((x : Nat) : Int)).toNat (0 : Int) / (65536 : Int)))).getD (((x : Nat) : Int)).toNat (0 : Int) ∧ (0 : Int) ≤ ((x : Nat) : Int) ∧ ((x : Nat) : Int) < (((l.length + (3 : Nat)) : Nat) : Int) ∧ (((x : Nat) : Int)).toNat < l.length + (3 : Nat) + (0 : Nat) ∧ (0 : Int) ≤ ((x : Nat) : Int) ∧ ((x : Nat) : Int) < (((l.length + (3 : Nat)) : Nat) : Int) ∧ ((tC (tI l y l.length) x).set (((x : Nat) : Int) + (1 : Int)).toNat (IntKind.u64.wrap ((tC (tI l y l.length) x).getD (((x : Nat) : Int) + (1 : Int)).toNat (0 : Int) + (tC (tI l y l.length) x).getD (((x : Nat) : Int)).toNat (0 : Int) / (65536 : Int)))).length = l.length + (3 : Nat) ∧ ((-9223372036854775808 : Int) ≤ ((x : Nat) : Int) + (1 : Int) ∧ ((x : Nat) : Int) + (1 : Int) < (9223372036854775808 : Int)) ∧ ∃ (y_1 : Nat), (((v = v ∧ l = l) ∧ y = y ∧ (l.length + (3 : Nat) = l.length + (3 : Nat) ∧ true = true) ∧ ((x : Nat) : Int) + (1 : Int) = ((y_1 : Nat) : Int) ∧ True) ∧ (nat_lit 67 + (1 : Nat) = (68 : TypeId) ∧ nat_lit 0 + (1 : Nat) = (1 : Nat) ∧ @Bool.rec (fun _ => Prop) False (((tC (tI l y l.length) x).set (((x : Nat) : Int) + (1 : Int)).toNat (IntKind.u64.wrap ((tC (tI l y l.length) x).getD (((x : Nat) : Int) + (1 : Int)).toNat (0 : Int) + (tC (tI l y l.length) x).getD (((x : Nat) : Int)).toNat (0 : Int) / (65536 : Int)))).set (((x : Nat) : Int)).toNat (((tC (tI l y l.length) x).set (((x : Nat) : Int) + (1 : Int)).toNat (IntKind.u64.wrap ((tC (tI l y l.length) x).getD (((x : Nat) : Int) + (1 : Int)).toNat (0 : Int) + (tC (tI l y l.length) x).getD (((x : Nat) : Int)).toNat (0 : Int) / (65536 : Int)))).getD (((x : Nat) : Int)).toNat (0 : Int) % (65536 : Int)) = tC (tI l y l.length) y_1) (true && (l.length + (3 : Nat)).beq (l.length + (3 : Nat))) ∧ True) ∧ True) ∧ y_1.le (l.length + (2 : Nat)) ∧ l.length + (2 : Nat) - y_1 < l.length + (2 : Nat) - x) ∧ (decide (((x : Nat) : Int) + (1 : Int) < (((l.length + (3 : Nat)) : Nat) : Int)) = false → ((l.length + (3 : Nat) = l.length + (3 : Nat) ∧ true = true) ∧ True) ∧ ((68 : TypeId) = (68 : TypeId) ∧ (1 : Nat) = (1 : Nat) ∧ @Bool.rec (fun _ => Prop) False (tC (tI l y l.length) x = timesS l y) (true && (l.length + (3 : Nat)).beq (l.length + (3 : Nat))) ∧ True) ∧ True)))) (by kernel_rfl) ?_
  refine ⟨0, ?_, Nat.zero_le _, fun x hx => ⟨⟨by omega, by omega⟩, fun h => ?_, fun h => ?_⟩⟩
  · repeat' (first | with_reducible rfl | exact True.intro | apply And.intro | (intro _h; cases _h; done) | exact OwnSame.mk fun _ => rfl | exact OwnSameE.mk fun _ => rfl | intro _h | apply pieceEq)
    all_goals first | rfl | exact True.intro
  · have h := of_decide_eq_true h
    refine ⟨rfl, by simp, by omega, ⟨by omega, by omega⟩, x + 1, ?_, by show x + 1 ≤ l.length + 3; omega, by omega⟩
    repeat' (first | with_reducible rfl | exact True.intro | apply And.intro | (intro _h; cases _h; done) | exact OwnSame.mk fun _ => rfl | exact OwnSameE.mk fun _ => rfl | intro _h | apply pieceEq)
    all_goals first | omega | exact List.replicate_succ'.symm
  · have h := of_decide_eq_false h
    have hx : x ≤ l.length + 3 := hx
    obtain rfl : x = l.length + 3 := by omega
    refine ⟨0, ?_, Nat.zero_le _, fun x hx => ⟨fun h => ?_, fun h => ?_⟩⟩
    · repeat' (first | with_reducible rfl | exact True.intro | apply And.intro | (intro _h; cases _h; done) | exact OwnSame.mk fun _ => rfl | exact OwnSameE.mk fun _ => rfl | intro _h | apply pieceEq)
      all_goals first | rfl | exact True.intro
    · have h := of_decide_eq_true h
      refine ⟨0, ?_, Nat.zero_le _, fun j hj => ⟨fun h3 => ?_, fun h3 => ?_⟩⟩
      · repeat' (first | with_reducible rfl | exact True.intro | apply And.intro | (intro _h; cases _h; done) | exact OwnSame.mk fun _ => rfl | exact OwnSameE.mk fun _ => rfl | intro _h | apply pieceEq)
        all_goals first | rfl | exact True.intro
      · have h3 := of_decide_eq_true h3
        have hp : Nat.min ((16 * (j : Int)) % 18446744073709551616).toNat 64 = 16 * j := by show min _ _ = _; omega
        have hd := Int.ediv_nonneg h1 (show (0 : Int) ≤ 2 ^ (16 * j) from Int.le_of_lt (Int.pow_pos (by omega)))
        have e1 : ((x : Int) + (j : Int)).toNat = x + j := by omega
        have hl : (tJ l y x j (tI l y x)).length = l.length + 3 := by rw [tJ_len, tI_len]
        simp only [wmod64, Int.toNat_natCast, e1, hp]
        repeat' (first | with_reducible rfl | exact True.intro | with_reducible assumption | apply And.intro | apply pieceEq | refine Exists.intro (j + 1) ?_)
        all_goals first | omega | (show j + 1 ≤ 3; omega) | rfl
      · have h3 := of_decide_eq_false h3
        have hj : j ≤ 3 := hj
        obtain rfl : j = 3 := by omega
        have hxl : x < l.length := by omega
        repeat' (first | with_reducible rfl | exact True.intro | with_reducible assumption | apply And.intro | apply pieceEq | refine Exists.intro (x + 1) ?_)
        all_goals first | omega | (show x + 1 ≤ l.length; omega) | rfl
    · have h := of_decide_eq_false h
      have hx : x ≤ l.length := hx
      obtain rfl : x = l.length := by omega
      have hM := inM_tC (inM_tI l y l.length)
      refine ⟨0, ?_, Nat.zero_le _, fun x hx => ⟨?_, fun h => ?_, fun h => ?_⟩⟩
      · repeat' (first | with_reducible rfl | exact True.intro | apply And.intro | (intro _h; cases _h; done) | exact OwnSame.mk fun _ => rfl | exact OwnSameE.mk fun _ => rfl | intro _h | apply pieceEq)
        all_goals first | rfl | exact True.intro
      · have hx : x ≤ l.length + 2 := hx
        exact ⟨by omega, by omega⟩
      · have h := of_decide_eq_true h
        have hMx := hM x x
        have hl : (tC (tI l y l.length) x).length = l.length + 3 := by rw [tC_len, tI_len]
        have hM1 := (inM_set (hM x) (x + 1) (x := ((tC (tI l y l.length) x).getD (x + 1) 0 + (tC (tI l y l.length) x).getD x 0 / 65536) % 18446744073709551616) ⟨by omega, by omega⟩) x
        have e1 : ((x : Int) + 1).toNat = x + 1 := by omega
        simp only [wmod64, Int.toNat_natCast, e1]
        repeat' (first | with_reducible rfl | exact True.intro | with_reducible assumption | apply And.intro | apply pieceEq | refine Exists.intro (x + 1) ?_)
        all_goals first | omega | (show x + 1 ≤ l.length + 2; omega) | exact hM1.1 | (rw [List.length_set]; exact hl) | rfl
      · have h := of_decide_eq_false h
        have hx : x ≤ l.length + 2 := hx
        obtain rfl : x = l.length + 2 := by omega
        repeat' (first | with_reducible rfl | exact True.intro | apply And.intro | (intro _h; cases _h; done) | exact OwnSame.mk fun _ => rfl | exact OwnSameE.mk fun _ => rfl | intro _h | apply pieceEq)
        all_goals first | rfl | exact True.intro
noncomputable def c_times : ECon
  | [.rd .u64 v l, .int .u64 y], [] => some ([l.length ≤ 1000, 0 ≤ y], [⟨none, .on 0 (l.length + 3) true, [some ⟨68, [.ints .u64 (l.length + 3) (timesS l y)], 1, none⟩]⟩])
  | _, _ => none
theorem c_times_e : EEntry Tryd.prog 53 c_times := by
  refine ⟨callFunc_ok Tryd.func53 (by kernel_rfl) (by kernel_rfl), fun args rows ps alts h hp => ?_⟩
  unfold c_times at h
  split at h
  · cases h; exact times_ok _ _ _ (hp _ (List.mem_of_getElem? (i := 0) rfl)) (hp _ (List.mem_of_getElem? (i := 1) rfl))
  · cases h
theorem above_ok (v : Value) (l : List Int) (n sh : Int) (h0 : l.length ≤ 1000) : PureSem Tryd.prog 54 [.rd .u64 v l, .int .u64 n, .int .i64 sh] (.bool (aboveS l n sh)) := by
  refine pure_intro mixed (cx_Ra_ok (fun _ => none) (fun q s => bif Nat.beq q 4 then some ⟨Nat, fun k => ⟨[(0, .rd .u64 v l), (1, .int .u64 n), (2, .int .i64 sh), (7, .int .u64 (aHi l sh k)), (8, .bool (aRe l sh k)), (9, .int .i64 ((l.length : Int) - 1 - k))], []⟩, fun k => k ≤ l.length, fun k => l.length - k⟩ else none)) Tryd.func54 1000 rfl rfl ?_
  refine of_nf (p := ((-9223372036854775808 : Int) ≤ ((l.length : Nat) : Int) - (1 : Int) ∧ ((l.length : Nat) : Int) - (1 : Int) < (9223372036854775808 : Int)) ∧ ∃ (x : Nat), (((v = v ∧ l = l) ∧ n = n ∧ sh = sh ∧ (0 : Int) = aHi l sh x ∧ false = aRe l sh x ∧ ((l.length : Nat) : Int) - (1 : Int) = ((l.length : Nat) : Int) - (1 : Int) - ((x : Nat) : Int) ∧ True) ∧ True) ∧ x.le l.length ∧ ∀ (x : Nat), x.le l.length → (decide ((0 : Int) ≤ ((l.length : Nat) : Int) - (1 : Int) - ((x : Nat) : Int)) = true → ((-9223372036854775808 : Int) ≤ (16 : Int) * (((l.length : Nat) : Int) - (1 : Int) - ((x : Nat) : Int)) ∧ (16 : Int) * (((l.length : Nat) : Int) - (1 : Int) - ((x : Nat) : Int)) < (9223372036854775808 : Int)) ∧ (decide (sh ≤ (16 : Int) * (((l.length : Nat) : Int) - (1 : Int) - ((x : Nat) : Int))) = true → (0 : Int) ≤ ((l.length : Nat) : Int) - (1 : Int) - ((x : Nat) : Int) ∧ ((l.length : Nat) : Int) - (1 : Int) - ((x : Nat) : Int) < ((l.length : Nat) : Int) ∧ ((-9223372036854775808 : Int) ≤ ((l.length : Nat) : Int) - (1 : Int) - ((x : Nat) : Int) - (1 : Int) ∧ ((l.length : Nat) : Int) - (1 : Int) - ((x : Nat) : Int) - (1 : Int) < (9223372036854775808 : Int)) ∧ ∃ (y : Nat), (((v = v ∧ l = l) ∧ n = n ∧ sh = sh ∧ IntKind.u64.wrap (IntKind.u64.wrap (aHi l sh x * (65536 : Int)) + l.getD (((l.length : Nat) : Int) - (1 : Int) - ((x : Nat) : Int)).toNat (0 : Int)) = aHi l sh y ∧ aRe l sh x = aRe l sh y ∧ ((l.length : Nat) : Int) - (1 : Int) - ((x : Nat) : Int) - (1 : Int) = ((l.length : Nat) : Int) - (1 : Int) - ((y : Nat) : Int) ∧ True) ∧ True) ∧ y.le l.length ∧ l.length - y < l.length - x) ∧ (decide (sh ≤ (16 : Int) * (((l.length : Nat) : Int) - (1 : Int) - ((x : Nat) : Int))) = false → (0 : Int) ≤ ((l.length : Nat) : Int) - (1 : Int) - ((x : Nat) : Int) ∧ ((l.length : Nat) : Int) - (1 : Int) - ((x : Nat) : Int) < ((l.length : Nat) : Int) ∧ ((l.getD (((l.length : Nat) : Int) - (1 : Int) - ((x : Nat) : Int)).toNat (0 : Int) != (0 : Int)) = true → ((-9223372036854775808 : Int) ≤ ((l.length : Nat) : Int) - (1 : Int) - ((x : Nat) : Int) - (1 : Int) ∧ ((l.length : Nat) : Int) - (1 : Int) - ((x : Nat) : Int) - (1 : Int) < (9223372036854775808 : Int)) ∧ ∃ (y : Nat), (((v = v ∧ l = l) ∧ n = n ∧ sh = sh ∧ aHi l sh x = aHi l sh y ∧ true = aRe l sh y ∧ ((l.length : Nat) : Int) - (1 : Int) - ((x : Nat) : Int) - (1 : Int) = ((l.length : Nat) : Int) - (1 : Int) - ((y : Nat) : Int) ∧ True) ∧ True) ∧ y.le l.length ∧ l.length - y < l.length - x) ∧ ((l.getD (((l.length : Nat) : Int) - (1 : Int) - ((x : Nat) : Int)).toNat (0 : Int) != (0 : Int)) = false → ((-9223372036854775808 : Int) ≤ ((l.length : Nat) : Int) - (1 : Int) - ((x : Nat) : Int) - (1 : Int) ∧ ((l.length : Nat) : Int) - (1 : Int) - ((x : Nat) : Int) - (1 : Int) < (9223372036854775808 : Int)) ∧ ∃ (y : Nat), (((v = v ∧ l = l) ∧ n = n ∧ sh = sh ∧ aHi l sh x = aHi l sh y ∧ aRe l sh x = aRe l sh y ∧ ((l.length : Nat) : Int) - (1 : Int) - ((x : Nat) : Int) - (1 : Int) = ((l.length : Nat) : Int) - (1 : Int) - ((y : Nat) : Int) ∧ True) ∧ True) ∧ y.le l.length ∧ l.length - y < l.length - x))) ∧ (decide ((0 : Int) ≤ ((l.length : Nat) : Int) - (1 : Int) - ((x : Nat) : Int)) = false → (decide (n < aHi l sh x) = true → true = aboveS l n sh) ∧ (decide (n < aHi l sh x) = false → ((aHi l sh x == n) = true → aRe l sh x = aboveS l n sh) ∧ ((aHi l sh x == n) = false → false = aboveS l n sh)))) (by kernel_rfl) ?_
  simp only [wmod64]
  refine ⟨⟨by omega, by omega⟩, 0, ?_, Nat.zero_le _, fun x hx => ⟨fun h => ?_, fun h => ?_⟩⟩
  · repeat' (first | with_reducible rfl | exact True.intro | apply And.intro | (intro _h; cases _h; done) | exact OwnSame.mk fun _ => rfl | exact OwnSameE.mk fun _ => rfl | intro _h | apply pieceEq)
    all_goals first | omega | rfl | exact True.intro
  · have h := of_decide_eq_true h
    have e1 : ((l.length : Int) - 1 - (x : Int)).toNat = l.length - 1 - x := by omega
    simp only [e1]
    refine ⟨⟨by omega, by omega⟩, fun hs => ?_, fun hs => ?_⟩
    · have hs := of_decide_eq_true hs
      refine ⟨by omega, by omega, ⟨by omega, by omega⟩, x + 1, ?_, by show x + 1 ≤ l.length; omega, by omega⟩
      repeat' (first | with_reducible rfl | exact True.intro | apply And.intro)
      all_goals first | omega | (simp only [aHi]; rw [if_pos hs]; done) | (simp only [aRe]; rw [if_pos hs]; done)
    · have hs := of_decide_eq_false hs
      refine ⟨by omega, by omega, fun hz => ⟨⟨by omega, by omega⟩, x + 1, ?_, by show x + 1 ≤ l.length; omega, by omega⟩, fun hz => ⟨⟨by omega, by omega⟩, x + 1, ?_, by show x + 1 ≤ l.length; omega, by omega⟩⟩
      · repeat' (first | with_reducible rfl | exact True.intro | apply And.intro)
        all_goals first | omega | (simp only [aHi]; rw [if_neg hs]; done) | (simp only [aRe]; rw [if_neg hs, hz]; rfl)
      · repeat' (first | with_reducible rfl | exact True.intro | apply And.intro)
        all_goals first | omega | (simp only [aHi]; rw [if_neg hs]; done) | (simp only [aRe]; rw [if_neg hs, hz]; rfl)
  · have h := of_decide_eq_false h
    have hx : x ≤ l.length := hx
    obtain rfl : x = l.length := by omega
    unfold aboveS
    refine ⟨fun h1 => by rw [h1]; rfl, fun h1 => ⟨fun h2 => ?_, fun h2 => ?_⟩⟩
    · have h2 : aHi l sh l.length = n := by simpa using h2
      rw [h1, h2]; simp
    · have h2 : ¬ aHi l sh l.length = n := by simpa using h2
      rw [h1]; simp [h2]
noncomputable def c_above : List SV → Option (List Prop × SV)
  | [.rd .u64 v l, .int .u64 n, .int .i64 sh] => some ([l.length ≤ 1000], .bool (aboveS l n sh))
  | _ => none
theorem c_above_e : PEntry Tryd.prog 54 c_above := by
  refine ⟨callFunc_ok Tryd.func54 (by kernel_rfl) (by kernel_rfl), fun args ps v h hp => ?_⟩
  unfold c_above at h
  split at h
  · cases h; exact above_ok _ _ _ _ (hp _ (by simp))
  · cases h
noncomputable def pt_Rb : List (Nat × (List SV → Option (List Prop × SV))) := [(54, c_above)]
theorem pt_Rb_ok : PureOK Tryd.prog (fun f => List.lookup f pt_Rb) := pure_list pt_Rb ⟨c_above_e, trivial⟩
noncomputable def et_Rb : List (Nat × ECon) := [(53, c_times)]
theorem et_Rb_ok : ConOK Tryd.prog (fun f => List.lookup f et_Rb) := con_list et_Rb ⟨c_times_e, trivial⟩
noncomputable abbrev cx_Rb (must : Nat → Option Bool := fun _ => none) (loop : Nat → SS → Option LoopSpec := fun _ _ => none) : Ctx := ⟨tab, inlG tab (fun f => List.lookup f pt_Rb) (fun f => List.lookup f et_Rb) fns (fun _ => {}) 1000 4, fun f => List.lookup f pt_Rb, must, loop, 0, 0, fun f => List.lookup f et_Rb⟩
theorem cx_Rb_ok (must : Nat → Option Bool) (loop : Nat → SS → Option LoopSpec) : CxOK Tryd.prog (cx_Rb must loop) := inlG_ok mixed tab_ok pt_Rb_ok et_Rb_ok fns_ok 4 _ _ _ _
theorem fits_ok (y n : Int) (third : Bool) (h0 : 0 ≤ y) : PureSem Tryd.prog 50 [.int .u64 y, .int .u64 n, .bool third] (.bool (fitsS y n third)) := by
  refine pure_intro mixed (cx_Rb_ok (fun _ => none) (fun _ _ => none)) Tryd.func50 1000 rfl rfl ?_
  refine of_nf (p := ∀ (v : Nat → Value), (1 : Nat) ≤ (1 : Nat) ∧ (1 : Nat) ≤ (1000 : Nat) ∧ (0 : Int) ≤ y ∧ ∀ (ys : List Int), ys = timesS [(1 : Int)] y → ∀ (v : Nat → Value), (4 : Nat) ≤ (4 : Nat) ∧ ys.length = (4 : Nat) ∧ (List.take (4 : Nat) (List.drop (0 : Nat) ys)).length ≤ (1000 : Nat) ∧ (0 : Int) ≤ y ∧ ∀ (ys_1 : List Int), ys_1 = ys → ∀ (ys_2 : List Int), ys_2 = timesS (List.take (4 : Nat) (List.drop (0 : Nat) ys)) y → (third = true → ∀ (v : Nat → Value), (0 : Nat) + ((List.take (4 : Nat) (List.drop (0 : Nat) ys)).length + (3 : Nat)) ≤ (List.take (4 : Nat) (List.drop (0 : Nat) ys)).length + (3 : Nat) ∧ ys_2.length = (List.take (4 : Nat) (List.drop (0 : Nat) ys)).length + (3 : Nat) ∧ (List.take ((List.take (4 : Nat) (List.drop (0 : Nat) ys)).length + (3 : Nat)) (List.drop (0 : Nat) ys_2)).length ≤ (1000 : Nat) ∧ (0 : Int) ≤ y ∧ ∀ (ys_3 : List Int), ys_3 = ys_1 → ∀ (ys_4 : List Int), ys_4 = ys_2 → ∀ (ys_5 : List Int), ys_5 = timesS (List.take ((List.take (4 : Nat) (List.drop (0 : Nat) ys)).length + (3 : Nat)) (List.drop (0 : Nat) ys_2)) y → OwnSame c_above [true, false, false] [SV.rd IntKind.u64 undef (List.take ((List.take ((List.take (4 : Nat) (List.drop (0 : Nat) ys)).length + (3 : Nat)) (List.drop (0 : Nat) ys_2)).length + (3 : Nat)) (List.drop (0 : Nat) ys_5)), SV.int IntKind.u64 n, SV.lit IntKind.i64 (96 : Int)] ∧ (0 : Nat) + ((List.take ((List.take (4 : Nat) (List.drop (0 : Nat) ys)).length + (3 : Nat)) (List.drop (0 : Nat) ys_2)).length + (3 : Nat)) ≤ (List.take ((List.take (4 : Nat) (List.drop (0 : Nat) ys)).length + (3 : Nat)) (List.drop (0 : Nat) ys_2)).length + (3 : Nat) ∧ ys_5.length = (List.take ((List.take (4 : Nat) (List.drop (0 : Nat) ys)).length + (3 : Nat)) (List.drop (0 : Nat) ys_2)).length + (3 : Nat) ∧ (List.take ((List.take ((List.take (4 : Nat) (List.drop (0 : Nat) ys)).length + (3 : Nat)) (List.drop (0 : Nat) ys_2)).length + (3 : Nat)) (List.drop (0 : Nat) ys_5)).length ≤ (1000 : Nat) ∧ (!aboveS (List.take ((List.take ((List.take (4 : Nat) (List.drop (0 : Nat) ys)).length + (3 : Nat)) (List.drop (0 : Nat) ys_2)).length + (3 : Nat)) (List.drop (0 : Nat) ys_5)) n (96 : Int)) = fitsS y n third) ∧ (third = false → OwnSame c_above [true, false, false] [SV.rd IntKind.u64 undef (List.take ((List.take (4 : Nat) (List.drop (0 : Nat) ys)).length + (3 : Nat)) (List.drop (0 : Nat) ys_2)), SV.int IntKind.u64 n, SV.lit IntKind.i64 (64 : Int)] ∧ (0 : Nat) + ((List.take (4 : Nat) (List.drop (0 : Nat) ys)).length + (3 : Nat)) ≤ (List.take (4 : Nat) (List.drop (0 : Nat) ys)).length + (3 : Nat) ∧ ys_2.length = (List.take (4 : Nat) (List.drop (0 : Nat) ys)).length + (3 : Nat) ∧ (List.take ((List.take (4 : Nat) (List.drop (0 : Nat) ys)).length + (3 : Nat)) (List.drop (0 : Nat) ys_2)).length ≤ (1000 : Nat) ∧ (!aboveS (List.take ((List.take (4 : Nat) (List.drop (0 : Nat) ys)).length + (3 : Nat)) (List.drop (0 : Nat) ys_2)) n (64 : Int)) = fitsS y n third)) (by kernel_rfl) ?_
  have e0 : ∀ (l : List Int) (n : Nat), l.length = n → List.take n (List.drop 0 l) = l := fun l n h => by rw [List.drop_zero]; exact List.take_of_length_le (by omega)
  have t1 := e0 (timesS [1] y) 4 (by rw [times_len]; rfl)
  have l1 : (timesS [1] y).length = 4 := by rw [times_len]; rfl
  have t2 := e0 (timesS (timesS [1] y) y) 7 (by rw [times_len, l1])
  have l2 : (timesS (timesS [1] y) y).length = 7 := by rw [times_len, l1]
  have t3 := e0 (timesS (timesS (timesS [1] y) y) y) 10 (by rw [times_len, l2])
  have l3 : (timesS (timesS (timesS [1] y) y) y).length = 10 := by rw [times_len, l2]
  simp only [↓forall_eq, t1, l1, t2, l2, t3, l3, fitsS]
  intro _
  refine ⟨by omega, by omega, h0, fun _ => ⟨by omega, trivial, by omega, h0, fun ht _ => ⟨by omega, trivial, by omega, h0, OwnSame.mk fun _ => rfl, by omega, trivial, by omega, by rw [if_pos ht]⟩, fun ht => ⟨OwnSame.mk fun _ => rfl, by omega, trivial, by omega, by rw [if_neg (by rw [ht]; decide)]⟩⟩⟩
noncomputable def c_fits : List SV → Option (List Prop × SV)
  | [.int .u64 y, .int .u64 n, .bool third] => some ([0 ≤ y], .bool (fitsS y n third))
  | _ => none
theorem c_fits_e : PEntry Tryd.prog 50 c_fits := by
  refine ⟨callFunc_ok Tryd.func50 (by kernel_rfl) (by kernel_rfl), fun args ps v h hp => ?_⟩
  unfold c_fits at h
  split at h
  · cases h; exact fits_ok _ _ _ (hp _ (by simp))
  · cases h
theorem bitsV_ex : ∃ f : Int → Bool → Int, ∀ n third, f n third = IntKind.u32.wrap (bS n third 36) := ⟨_, fun _ _ => rfl⟩
noncomputable def bitsV : Int → Bool → Int := Classical.choose bitsV_ex
theorem bitsV_eq (n : Int) (third : Bool) : bitsV n third = IntKind.u32.wrap (bS n third 36) := Classical.choose_spec bitsV_ex n third
noncomputable def pt_Rc : List (Nat × (List SV → Option (List Prop × SV))) := [(50, c_fits)]
theorem pt_Rc_ok : PureOK Tryd.prog (fun f => List.lookup f pt_Rc) := pure_list pt_Rc ⟨c_fits_e, trivial⟩
noncomputable abbrev cx_Rc (must : Nat → Option Bool := fun _ => none) (loop : Nat → SS → Option LoopSpec := fun _ _ => none) : Ctx := ⟨tab, inl tab (fun f => List.lookup f pt_Rc) fns (fun _ => {}) 1000 4, fun f => List.lookup f pt_Rc, must, loop, 0, 0, fun _ => none⟩
theorem cx_Rc_ok (must : Nat → Option Bool) (loop : Nat → SS → Option LoopSpec) : CxOK Tryd.prog (cx_Rc must loop) := inl_ok mixed tab_ok pt_Rc_ok fns_ok 4 _ _ _ _
theorem bits_ok (n : Int) (third : Bool)  : PureSem Tryd.prog 36 [.int .u64 n, .bool third] (.int .u32 (bitsV n third)) := by
  refine pure_intro mixed (cx_Rc_ok (fun _ => none) (fun q s => bif Nat.beq q 3 then some ⟨Nat, fun k => ⟨[(0, .int .u64 n), (1, .bool third), (5, .int .u64 (bS n third k)), (6, .int .i64 (35 - (k : Int)))], []⟩, fun k => k ≤ 36, fun k => 36 - k⟩ else none)) Tryd.func36 1000 rfl rfl ?_
  refine of_nf (p := ∃ (x : Nat), ((n = n ∧ third = third ∧ (0 : Int) = bS n third x ∧ (35 : Int) = (35 : Int) - ((x : Nat) : Int) ∧ True) ∧ True) ∧ x.le (36 : Nat) ∧ ∀ (x : Nat), x.le (36 : Nat) → (decide ((0 : Int) ≤ (35 : Int) - ((x : Nat) : Int)) = true → (0 : Int) ≤ IntKind.u64.wrap ((35 : Int) - ((x : Nat) : Int)) ∧ (0 : Int) ≤ IntKind.u64.wrap (bS n third x + IntKind.u64.wrap ((1 : Int) * (2 : Int) ^ (IntKind.u64.wrap ((35 : Int) - ((x : Nat) : Int))).toNat.min (64 : Nat))) ∧ (fitsS (IntKind.u64.wrap (bS n third x + IntKind.u64.wrap ((1 : Int) * (2 : Int) ^ (IntKind.u64.wrap ((35 : Int) - ((x : Nat) : Int))).toNat.min (64 : Nat)))) n third = true → ((-9223372036854775808 : Int) ≤ (35 : Int) - ((x : Nat) : Int) - (1 : Int) ∧ (35 : Int) - ((x : Nat) : Int) - (1 : Int) < (9223372036854775808 : Int)) ∧ ∃ (y : Nat), ((n = n ∧ third = third ∧ IntKind.u64.wrap (bS n third x + IntKind.u64.wrap ((1 : Int) * (2 : Int) ^ (IntKind.u64.wrap ((35 : Int) - ((x : Nat) : Int))).toNat.min (64 : Nat))) = bS n third y ∧ (35 : Int) - ((x : Nat) : Int) - (1 : Int) = (35 : Int) - ((y : Nat) : Int) ∧ True) ∧ True) ∧ y.le (36 : Nat) ∧ (36 : Nat) - y < (36 : Nat) - x) ∧ (fitsS (IntKind.u64.wrap (bS n third x + IntKind.u64.wrap ((1 : Int) * (2 : Int) ^ (IntKind.u64.wrap ((35 : Int) - ((x : Nat) : Int))).toNat.min (64 : Nat)))) n third = false → ((-9223372036854775808 : Int) ≤ (35 : Int) - ((x : Nat) : Int) - (1 : Int) ∧ (35 : Int) - ((x : Nat) : Int) - (1 : Int) < (9223372036854775808 : Int)) ∧ ∃ (y : Nat), ((n = n ∧ third = third ∧ bS n third x = bS n third y ∧ (35 : Int) - ((x : Nat) : Int) - (1 : Int) = (35 : Int) - ((y : Nat) : Int) ∧ True) ∧ True) ∧ y.le (36 : Nat) ∧ (36 : Nat) - y < (36 : Nat) - x)) ∧ (decide ((0 : Int) ≤ (35 : Int) - ((x : Nat) : Int)) = false → IntKind.u32.wrap (bS n third x) = bitsV n third)) (by kernel_rfl) ?_
  have hb : ∀ k : Nat, 0 ≤ bS n third k := fun k => by
    induction k with
    | zero => simp [bS]
    | succ k ih => simp only [bS]; split <;> omega
  simp only [wmod64]
  refine ⟨0, ?_, Nat.zero_le _, fun x hx => ⟨fun h => ?_, fun h => ?_⟩⟩
  · repeat' (first | with_reducible rfl | exact True.intro | apply And.intro | (intro _h; cases _h; done) | exact OwnSame.mk fun _ => rfl | exact OwnSameE.mk fun _ => rfl | intro _h | apply pieceEq)
    all_goals first | omega | rfl | exact True.intro
  · have h := of_decide_eq_true h
    have hp : Nat.min ((35 - (x : Int)) % 18446744073709551616).toNat 64 = 35 - x := by show min _ _ = _; omega
    have hbx := hb x
    have hs : 1 * (2 : Int) ^ (35 - x) % 18446744073709551616 = 2 ^ (35 - x) := by
      rw [Int.one_mul]
      have h1 : (0 : Int) < 2 ^ (35 - x) := Int.pow_pos (by omega)
      have h2 : (2 : Nat) ^ (35 - x) ≤ 2 ^ 35 := Nat.pow_le_pow_right (by omega) (by omega)
      have h3 : ((2 : Int) ^ (35 - x)) = ((2 ^ (35 - x) : Nat) : Int) := (Int.natCast_pow 2 _).symm
      rw [h3] at h1 ⊢
      omega
    simp only [hp, hs]
    refine ⟨by omega, by omega, fun hf => ⟨⟨by omega, by omega⟩, x + 1, ⟨⟨trivial, trivial, by simp only [bS]; rw [if_pos hf], by omega, trivial⟩, trivial⟩, by show x + 1 ≤ 36; omega, by omega⟩, fun hf => ⟨⟨by omega, by omega⟩, x + 1, ⟨⟨trivial, trivial, by simp only [bS]; rw [if_neg (by rw [hf]; decide)], by omega, trivial⟩, trivial⟩, by show x + 1 ≤ 36; omega, by omega⟩⟩
  · have h := of_decide_eq_false h
    have hx : x ≤ 36 := hx
    obtain rfl : x = 36 := by omega
    exact (bitsV_eq _ _).symm
noncomputable def c_bits : List SV → Option (List Prop × SV)
  | [.int .u64 n, .bool third] => some ([], .int .u32 (bitsV n third))
  | _ => none
theorem c_bits_e : PEntry Tryd.prog 36 c_bits := by
  refine ⟨callFunc_ok Tryd.func36 (by kernel_rfl) (by kernel_rfl), fun args ps v h hp => ?_⟩
  unfold c_bits at h
  split at h
  · cases h; exact bits_ok _ _ 
  · cases h
theorem rk : ∀ j, j < 64 → bitsV (PR.getD j 0) true = KCS.getD j 0 := fun j hj => by
  rw [bitsV_eq]
  obtain ⟨g, i, hi, rfl⟩ : ∃ g i, ∃ hi : i < 4, j = 4 * g + i := ⟨j / 4, j % 4, Nat.mod_lt _ (by omega), by omega⟩
  have hg : g < 16 := by omega
  match g, hg with
  | 0, _ => exact rk0 ⟨i, hi⟩
  | 1, _ => exact rk1 ⟨i, hi⟩
  | 2, _ => exact rk2 ⟨i, hi⟩
  | 3, _ => exact rk3 ⟨i, hi⟩
  | 4, _ => exact rk4 ⟨i, hi⟩
  | 5, _ => exact rk5 ⟨i, hi⟩
  | 6, _ => exact rk6 ⟨i, hi⟩
  | 7, _ => exact rk7 ⟨i, hi⟩
  | 8, _ => exact rk8 ⟨i, hi⟩
  | 9, _ => exact rk9 ⟨i, hi⟩
  | 10, _ => exact rk10 ⟨i, hi⟩
  | 11, _ => exact rk11 ⟨i, hi⟩
  | 12, _ => exact rk12 ⟨i, hi⟩
  | 13, _ => exact rk13 ⟨i, hi⟩
  | 14, _ => exact rk14 ⟨i, hi⟩
  | 15, _ => exact rk15 ⟨i, hi⟩
  | g + 16, h => omega
noncomputable def kL (k : Nat) : List Int := (List.range k).map (fun j => bitsV (PR.getD j 0) true) ++ List.replicate (64 - k) 0
theorem kL_len {k : Nat} (h : k ≤ 64) : (kL k).length = 64 := by simp [kL]; omega
theorem kL_set {k : Nat} (h : k < 64) : (kL k).set k (bitsV (PR.getD k 0) true) = kL (k + 1) := by
  unfold kL
  rw [List.set_append_right _ _ (by simp), List.length_map, List.length_range, Nat.sub_self, List.range_succ, List.map_append]
  obtain ⟨m, hm⟩ : ∃ m, 64 - k = m + 1 := ⟨63 - k, by omega⟩
  rw [hm, List.replicate_succ, show 64 - (k + 1) = m by omega]
  simp
theorem kL_all : kL 64 = KCS := by
  have h : kL 64 = (List.range 64).map (fun j => bitsV (PR.getD j 0) true) := by simp [kL]
  rw [h]
  have h2 : KCS = (List.range 64).map (fun j => KCS.getD j 0) := by rfl
  rw [h2]
  refine List.map_congr_left fun j hj => ?_
  exact rk j (List.mem_range.1 hj)
noncomputable def pt_Rd : List (Nat × (List SV → Option (List Prop × SV))) := [(36, c_bits)]
theorem pt_Rd_ok : PureOK Tryd.prog (fun f => List.lookup f pt_Rd) := pure_list pt_Rd ⟨c_bits_e, trivial⟩
noncomputable abbrev cx_Rd (must : Nat → Option Bool := fun _ => none) (loop : Nat → SS → Option LoopSpec := fun _ _ => none) : Ctx := ⟨tab, inl tab (fun f => List.lookup f pt_Rd) fns (fun _ => {}) 1000 4, fun f => List.lookup f pt_Rd, must, loop, 0, 0, fun _ => none⟩
theorem cx_Rd_ok (must : Nat → Option Bool) (loop : Nat → SS → Option LoopSpec) : CxOK Tryd.prog (cx_Rd must loop) := inl_ok mixed tab_ok pt_Rd_ok fns_ok 4 _ _ _ _
theorem Roots_ok   : PureSem Tryd.prog 9 [] (.tup [.agg [.int .u32 (bitsV 2 false), .int .u32 (bitsV 3 false), .int .u32 (bitsV 5 false), .int .u32 (bitsV 7 false), .int .u32 (bitsV 11 false), .int .u32 (bitsV 13 false), .int .u32 (bitsV 17 false), .int .u32 (bitsV 19 false)], .agg [.ints .u32 64 KCS]]) := by
  refine pure_intro mixed (cx_Rd_ok (fun _ => none) (fun q s => bif Nat.beq q 8 then some ⟨Nat, fun k => s.upd [] [(5, .int .i64 (k : Int))] [(3, some ⟨24, [.ints .u32 64 (kL k)], 0, none⟩)], fun k => k ≤ 64, fun k => 64 - k⟩ else none)) Tryd.func9 1000 rfl rfl ?_
  refine of_nf (p := ∃ (x : Nat), (((0 : Int) = ((x : Nat) : Int) ∧ SV.litb false = SV.litb false ∧ SV.lit IntKind.i64 (8 : Int) = SV.lit IntKind.i64 (8 : Int) ∧ SV.lit IntKind.i64 (8 : Int) = SV.lit IntKind.i64 (8 : Int) ∧ SV.lit IntKind.i64 (8 : Int) = SV.lit IntKind.i64 (8 : Int) ∧ SV.lit IntKind.i64 (7 : Int) = SV.lit IntKind.i64 (7 : Int) ∧ SV.ptr (2 : Nat) (7 : Nat) = SV.ptr (2 : Nat) (7 : Nat) ∧ bitsV (19 : Int) false = bitsV (19 : Int) false ∧ (19 : Int) = (19 : Int) ∧ SV.gp (1 : Nat) (7 : Nat) = SV.gp (1 : Nat) (7 : Nat) ∧ SV.lit IntKind.i64 (7 : Int) = SV.lit IntKind.i64 (7 : Int) ∧ SV.lit IntKind.i64 (7 : Int) = SV.lit IntKind.i64 (7 : Int) ∧ SV.ptr (3 : Nat) (0 : Nat) = SV.ptr (3 : Nat) (0 : Nat) ∧ SV.ptr (2 : Nat) (0 : Nat) = SV.ptr (2 : Nat) (0 : Nat) ∧ SV.ptr (1 : Nat) (0 : Nat) = SV.ptr (1 : Nat) (0 : Nat) ∧ SV.ptr (0 : Nat) (0 : Nat) = SV.ptr (0 : Nat) (0 : Nat) ∧ True) ∧ ((23 : Nat) = (23 : Nat) ∧ (0 : Nat) = (0 : Nat) ∧ SV.lit IntKind.u32 (0 : Int) = SV.lit IntKind.u32 (0 : Int) ∧ SV.lit IntKind.u32 (0 : Int) = SV.lit IntKind.u32 (0 : Int) ∧ SV.lit IntKind.u32 (0 : Int) = SV.lit IntKind.u32 (0 : Int) ∧ SV.lit IntKind.u32 (0 : Int) = SV.lit IntKind.u32 (0 : Int) ∧ SV.lit IntKind.u32 (0 : Int) = SV.lit IntKind.u32 (0 : Int) ∧ SV.lit IntKind.u32 (0 : Int) = SV.lit IntKind.u32 (0 : Int) ∧ SV.lit IntKind.u32 (0 : Int) = SV.lit IntKind.u32 (0 : Int) ∧ SV.lit IntKind.u32 (0 : Int) = SV.lit IntKind.u32 (0 : Int) ∧ True) ∧ ((24 : Nat) = (24 : Nat) ∧ (0 : Nat) = (0 : Nat) ∧ [(0 : Int), (0 : Int), (0 : Int), (0 : Int), (0 : Int), (0 : Int), (0 : Int), (0 : Int), (0 : Int), (0 : Int), (0 : Int), (0 : Int), (0 : Int), (0 : Int), (0 : Int), (0 : Int), (0 : Int), (0 : Int), (0 : Int), (0 : Int), (0 : Int), (0 : Int), (0 : Int), (0 : Int), (0 : Int), (0 : Int), (0 : Int), (0 : Int), (0 : Int), (0 : Int), (0 : Int), (0 : Int), (0 : Int), (0 : Int), (0 : Int), (0 : Int), (0 : Int), (0 : Int), (0 : Int), (0 : Int), (0 : Int), (0 : Int), (0 : Int), (0 : Int), (0 : Int), (0 : Int), (0 : Int), (0 : Int), (0 : Int), (0 : Int), (0 : Int), (0 : Int), (0 : Int), (0 : Int), (0 : Int), (0 : Int), (0 : Int), (0 : Int), (0 : Int), (0 : Int), (0 : Int), (0 : Int), (0 : Int), (0 : Int)] = [(0 : Int), (0 : Int), (0 : Int), (0 : Int), (0 : Int), (0 : Int), (0 : Int), (0 : Int), (0 : Int), (0 : Int), (0 : Int), (0 : Int), (0 : Int), (0 : Int), (0 : Int), (0 : Int), (0 : Int), (0 : Int), (0 : Int), (0 : Int), (0 : Int), (0 : Int), (0 : Int), (0 : Int), (0 : Int), (0 : Int), (0 : Int), (0 : Int), (0 : Int), (0 : Int), (0 : Int), (0 : Int), (0 : Int), (0 : Int), (0 : Int), (0 : Int), (0 : Int), (0 : Int), (0 : Int), (0 : Int), (0 : Int), (0 : Int), (0 : Int), (0 : Int), (0 : Int), (0 : Int), (0 : Int), (0 : Int), (0 : Int), (0 : Int), (0 : Int), (0 : Int), (0 : Int), (0 : Int), (0 : Int), (0 : Int), (0 : Int), (0 : Int), (0 : Int), (0 : Int), (0 : Int), (0 : Int), (0 : Int), (0 : Int)] ∧ True) ∧ ((23 : Nat) = (23 : Nat) ∧ (0 : Nat) = (0 : Nat) ∧ bitsV (2 : Int) false = bitsV (2 : Int) false ∧ bitsV (3 : Int) false = bitsV (3 : Int) false ∧ bitsV (5 : Int) false = bitsV (5 : Int) false ∧ bitsV (7 : Int) false = bitsV (7 : Int) false ∧ bitsV (11 : Int) false = bitsV (11 : Int) false ∧ bitsV (13 : Int) false = bitsV (13 : Int) false ∧ bitsV (17 : Int) false = bitsV (17 : Int) false ∧ bitsV (19 : Int) false = bitsV (19 : Int) false ∧ True) ∧ ((24 : Nat) = (24 : TypeId) ∧ (0 : Nat) = (0 : Nat) ∧ [(0 : Int), (0 : Int), (0 : Int), (0 : Int), (0 : Int), (0 : Int), (0 : Int), (0 : Int), (0 : Int), (0 : Int), (0 : Int), (0 : Int), (0 : Int), (0 : Int), (0 : Int), (0 : Int), (0 : Int), (0 : Int), (0 : Int), (0 : Int), (0 : Int), (0 : Int), (0 : Int), (0 : Int), (0 : Int), (0 : Int), (0 : Int), (0 : Int), (0 : Int), (0 : Int), (0 : Int), (0 : Int), (0 : Int), (0 : Int), (0 : Int), (0 : Int), (0 : Int), (0 : Int), (0 : Int), (0 : Int), (0 : Int), (0 : Int), (0 : Int), (0 : Int), (0 : Int), (0 : Int), (0 : Int), (0 : Int), (0 : Int), (0 : Int), (0 : Int), (0 : Int), (0 : Int), (0 : Int), (0 : Int), (0 : Int), (0 : Int), (0 : Int), (0 : Int), (0 : Int), (0 : Int), (0 : Int), (0 : Int), (0 : Int)] = kL x ∧ True) ∧ True) ∧ x.le (64 : Nat) ∧ ∀ (x : Nat), x.le (64 : Nat) → (decide (((x : Nat) : Int) < (64 : Int)) = true → (0 : Int) ≤ ((x : Nat) : Int) ∧ ((x : Nat) : Int) < (64 : Int) ∧ (0 : Int) ≤ ((x : Nat) : Int) ∧ ((x : Nat) : Int) < (64 : Int) ∧ (0 : Int) ≤ ((x : Nat) : Int) ∧ ((x : Nat) : Int) < (((64 : Nat) : Nat) : Int) ∧ (kL x).length = (64 : Nat) ∧ ((-9223372036854775808 : Int) ≤ ((x : Nat) : Int) + (1 : Int) ∧ ((x : Nat) : Int) + (1 : Int) < (9223372036854775808 : Int)) ∧ ∃ (y : Nat), ((((x : Nat) : Int) + (1 : Int) = ((y : Nat) : Int) ∧ SV.litb false = SV.litb false ∧ SV.lit IntKind.i64 (8 : Int) = SV.lit IntKind.i64 (8 : Int) ∧ SV.lit IntKind.i64 (8 : Int) = SV.lit IntKind.i64 (8 : Int) ∧ SV.lit IntKind.i64 (8 : Int) = SV.lit IntKind.i64 (8 : Int) ∧ SV.lit IntKind.i64 (7 : Int) = SV.lit IntKind.i64 (7 : Int) ∧ SV.ptr (2 : Nat) (7 : Nat) = SV.ptr (2 : Nat) (7 : Nat) ∧ bitsV (19 : Int) false = bitsV (19 : Int) false ∧ (19 : Int) = (19 : Int) ∧ SV.gp (1 : Nat) (7 : Nat) = SV.gp (1 : Nat) (7 : Nat) ∧ SV.lit IntKind.i64 (7 : Int) = SV.lit IntKind.i64 (7 : Int) ∧ SV.lit IntKind.i64 (7 : Int) = SV.lit IntKind.i64 (7 : Int) ∧ SV.ptr (3 : Nat) (0 : Nat) = SV.ptr (3 : Nat) (0 : Nat) ∧ SV.ptr (2 : Nat) (0 : Nat) = SV.ptr (2 : Nat) (0 : Nat) ∧ SV.ptr (1 : Nat) (0 : Nat) = SV.ptr (1 : Nat) (0 : Nat) ∧ SV.ptr (0 : Nat) (0 : Nat) = SV.ptr (0 : Nat) (0 : Nat) ∧ True) ∧ ((23 : Nat) = (23 : Nat) ∧ (0 : Nat) = (0 : Nat) ∧ SV.lit IntKind.u32 (0 : Int) = SV.lit IntKind.u32 (0 : Int) ∧ SV.lit IntKind.u32 (0 : Int) = SV.lit IntKind.u32 (0 : Int) ∧ SV.lit IntKind.u32 (0 : Int) = SV.lit IntKind.u32 (0 : Int) ∧ SV.lit IntKind.u32 (0 : Int) = SV.lit IntKind.u32 (0 : Int) ∧ SV.lit IntKind.u32 (0 : Int) = SV.lit IntKind.u32 (0 : Int) ∧ SV.lit IntKind.u32 (0 : Int) = SV.lit IntKind.u32 (0 : Int) ∧ SV.lit IntKind.u32 (0 : Int) = SV.lit IntKind.u32 (0 : Int) ∧ SV.lit IntKind.u32 (0 : Int) = SV.lit IntKind.u32 (0 : Int) ∧ True) ∧ ((24 : Nat) = (24 : Nat) ∧ (0 : Nat) = (0 : Nat) ∧ [(0 : Int), (0 : Int), (0 : Int), (0 : Int), (0 : Int), (0 : Int), (0 : Int), (0 : Int), (0 : Int), (0 : Int), (0 : Int), (0 : Int), (0 : Int), (0 : Int), (0 : Int), (0 : Int), (0 : Int), (0 : Int), (0 : Int), (0 : Int), (0 : Int), (0 : Int), (0 : Int), (0 : Int), (0 : Int), (0 : Int), (0 : Int), (0 : Int), (0 : Int), (0 : Int), (0 : Int), (0 : Int), (0 : Int), (0 : Int), (0 : Int), (0 : Int), (0 : Int), (0 : Int), (0 : Int), (0 : Int), (0 : Int), (0 : Int), (0 : Int), (0 : Int), (0 : Int), (0 : Int), (0 : Int), (0 : Int), (0 : Int), (0 : Int), (0 : Int), (0 : Int), (0 : Int), (0 : Int), (0 : Int), (0 : Int), (0 : Int), (0 : Int), (0 : Int), (0 : Int), (0 : Int), (0 : Int), (0 : Int), (0 : Int)] = [(0 : Int), (0 : Int), (0 : Int), (0 : Int), (0 : Int), (0 : Int), (0 : Int), (0 : Int), (0 : Int), (0 : Int), (0 : Int), (0 : Int), (0 : Int), (0 : Int), (0 : Int), (0 : Int), (0 : Int), (0 : Int), (0 : Int), (0 : Int), (0 : Int), (0 : Int), (0 : Int), (0 : Int), (0 : Int), (0 : Int), (0 : Int), (0 : Int), (0 : Int), (0 : Int), (0 : Int), (0 : Int), (0 : Int), (0 : Int), (0 : Int), (0 : Int), (0 : Int), (0 : Int), (0 : Int), (0 : Int), (0 : Int), (0 : Int), (0 : Int), (0 : Int), (0 : Int), (0 : Int), (0 : Int), (0 : Int), (0 : Int), (0 : Int), (0 : Int), (0 : Int), (0 : Int), (0 : Int), (0 : Int), (0 : Int), (0 : Int), (0 : Int), (0 : Int), (0 : Int), (0 : Int), (0 : Int), (0 : Int), (0 : Int)] ∧ True) ∧ ((23 : Nat) = (23 : Nat) ∧ (0 : Nat) = (0 : Nat) ∧ bitsV (2 : Int) false = bitsV (2 : Int) false ∧ bitsV (3 : Int) false = bitsV (3 : Int) false ∧ bitsV (5 : Int) false = bitsV (5 : Int) false ∧ bitsV (7 : Int) false = bitsV (7 : Int) false ∧ bitsV (11 : Int) false = bitsV (11 : Int) false ∧ bitsV (13 : Int) false = bitsV (13 : Int) false ∧ bitsV (17 : Int) false = bitsV (17 : Int) false ∧ bitsV (19 : Int) false = bitsV (19 : Int) false ∧ True) ∧ (nat_lit 23 + (1 : Nat) = (24 : TypeId) ∧ (0 : Nat) = (0 : Nat) ∧ (kL x).set (((x : Nat) : Int)).toNat (bitsV ([(2 : Int), (3 : Int), (5 : Int), (7 : Int), (11 : Int), (13 : Int), (17 : Int), (19 : Int), (23 : Int), (29 : Int), (31 : Int), (37 : Int), (41 : Int), (43 : Int), (47 : Int), (53 : Int), (59 : Int), (61 : Int), (67 : Int), (71 : Int), (73 : Int), (79 : Int), (83 : Int), (89 : Int), (97 : Int), (101 : Int), (103 : Int), (107 : Int), (109 : Int), (113 : Int), (127 : Int), (131 : Int), (137 : Int), (139 : Int), (149 : Int), (151 : Int), (157 : Int), (163 : Int), (167 : Int), (173 : Int), (179 : Int), (181 : Int), (191 : Int), (193 : Int), (197 : Int), (199 : Int), (211 : Int), (223 : Int), (227 : Int), (229 : Int), (233 : Int), (239 : Int), (241 : Int), (251 : Int), (257 : Int), (263 : Int), (269 : Int), (271 : Int), (277 : Int), (281 : Int), (283 : Int), (293 : Int), (307 : Int), (311 : Int)].getD (((x : Nat) : Int)).toNat (0 : Int)) true) = kL y ∧ True) ∧ True) ∧ y.le (64 : Nat) ∧ (64 : Nat) - y < (64 : Nat) - x) ∧ (decide (((x : Nat) : Int) < (64 : Int)) = false → (bitsV (2 : Int) false = bitsV (2 : Int) false ∧ bitsV (3 : Int) false = bitsV (3 : Int) false ∧ bitsV (5 : Int) false = bitsV (5 : Int) false ∧ bitsV (7 : Int) false = bitsV (7 : Int) false ∧ bitsV (11 : Int) false = bitsV (11 : Int) false ∧ bitsV (13 : Int) false = bitsV (13 : Int) false ∧ bitsV (17 : Int) false = bitsV (17 : Int) false ∧ bitsV (19 : Int) false = bitsV (19 : Int) false ∧ True) ∧ (kL x = KCS ∧ True) ∧ True)) (by kernel_rfl) ?_
  refine ⟨0, ?_, Nat.zero_le _, fun x hx => ⟨fun h => ?_, fun h => ?_⟩⟩
  · repeat' (first | with_reducible rfl | exact True.intro | apply And.intro)
    all_goals first | rfl | exact True.intro
  · have h := of_decide_eq_true h
    have hlt : x < 64 := by omega
    simp only [Int.toNat_natCast]
    repeat' (first | with_reducible rfl | exact True.intro | apply And.intro | refine Exists.intro (x + 1) ?_)
    all_goals first | omega | rfl | exact kL_len (by omega) | exact kL_set hlt | (show x + 1 ≤ 64; omega)
  · have h := of_decide_eq_false h
    have hx : x ≤ 64 := hx
    obtain rfl : x = 64 := by omega
    repeat' (first | with_reducible rfl | exact True.intro | apply And.intro)
    all_goals first | exact kL_all | rfl
noncomputable def c_Roots : List SV → Option (List Prop × SV)
  | [] => some ([], .tup [.agg [.int .u32 (bitsV 2 false), .int .u32 (bitsV 3 false), .int .u32 (bitsV 5 false), .int .u32 (bitsV 7 false), .int .u32 (bitsV 11 false), .int .u32 (bitsV 13 false), .int .u32 (bitsV 17 false), .int .u32 (bitsV 19 false)], .agg [.ints .u32 64 KCS]])
  | _ => none
theorem c_Roots_e : PEntry Tryd.prog 9 c_Roots := by
  refine ⟨callFunc_ok Tryd.func9 (by kernel_rfl) (by kernel_rfl), fun args ps v h hp => ?_⟩
  unfold c_Roots at h
  split at h
  · cases h; exact Roots_ok  
  · cases h
theorem SFirst_ok   : PureSem Tryd.prog 11 [] (.agg [.int .u32 1779033703, .int .u32 3144134277, .int .u32 1013904242, .int .u32 2773480762, .int .u32 1359893119, .int .u32 2600822924, .int .u32 528734635, .int .u32 1541459225]) := by
  refine pure_intro mixed (cx_Ra_ok (fun _ => none) (fun _ _ => none)) Tryd.func11 1000 rfl rfl ?_
  refine of_nf (p := (1779033703 : Int) = (1779033703 : Int) ∧ (3144134277 : Int) = (3144134277 : Int) ∧ (1013904242 : Int) = (1013904242 : Int) ∧ (2773480762 : Int) = (2773480762 : Int) ∧ (1359893119 : Int) = (1359893119 : Int) ∧ (2600822924 : Int) = (2600822924 : Int) ∧ (528734635 : Int) = (528734635 : Int) ∧ (1541459225 : Int) = (1541459225 : Int) ∧ True) (by kernel_rfl) ?_
  repeat' (first | with_reducible rfl | exact True.intro | apply And.intro | (intro _h; cases _h; done) | exact OwnSame.mk fun _ => rfl | exact OwnSameE.mk fun _ => rfl | intro _h | apply pieceEq)
noncomputable def c_SFirst : List SV → Option (List Prop × SV)
  | [] => some ([], .agg [.int .u32 1779033703, .int .u32 3144134277, .int .u32 1013904242, .int .u32 2773480762, .int .u32 1359893119, .int .u32 2600822924, .int .u32 528734635, .int .u32 1541459225])
  | _ => none
theorem c_SFirst_e : PEntry Tryd.prog 11 c_SFirst := by
  refine ⟨callFunc_ok Tryd.func11 (by kernel_rfl) (by kernel_rfl), fun args ps v h hp => ?_⟩
  unfold c_SFirst at h
  split at h
  · cases h; exact SFirst_ok  
  · cases h
theorem RFirst_ok   : PureSem Tryd.prog 12 [] (.agg [.int .u32 1779033703, .int .u32 3144134277, .int .u32 1013904242, .int .u32 2773480762, .int .u32 1359893119, .int .u32 2600822924, .int .u32 528734635, .int .u32 1541459225]) := by
  refine pure_intro mixed (cx_Ra_ok (fun _ => none) (fun _ _ => none)) Tryd.func12 1000 rfl rfl ?_
  refine of_nf (p := (1779033703 : Int) = (1779033703 : Int) ∧ (3144134277 : Int) = (3144134277 : Int) ∧ (1013904242 : Int) = (1013904242 : Int) ∧ (2773480762 : Int) = (2773480762 : Int) ∧ (1359893119 : Int) = (1359893119 : Int) ∧ (2600822924 : Int) = (2600822924 : Int) ∧ (528734635 : Int) = (528734635 : Int) ∧ (1541459225 : Int) = (1541459225 : Int) ∧ True) (by kernel_rfl) ?_
  repeat' (first | with_reducible rfl | exact True.intro | apply And.intro | (intro _h; cases _h; done) | exact OwnSame.mk fun _ => rfl | exact OwnSameE.mk fun _ => rfl | intro _h | apply pieceEq)
noncomputable def c_RFirst : List SV → Option (List Prop × SV)
  | [] => some ([], .agg [.int .u32 1779033703, .int .u32 3144134277, .int .u32 1013904242, .int .u32 2773480762, .int .u32 1359893119, .int .u32 2600822924, .int .u32 528734635, .int .u32 1541459225])
  | _ => none
theorem c_RFirst_e : PEntry Tryd.prog 12 c_RFirst := by
  refine ⟨callFunc_ok Tryd.func12 (by kernel_rfl) (by kernel_rfl), fun args ps v h hp => ?_⟩
  unfold c_RFirst at h
  split at h
  · cases h; exact RFirst_ok  
  · cases h
theorem abc_ok   : PureSem Tryd.prog 10 [] (.bool true) := by
  intro W F ρ rows w hmem hargs
  exact ⟨trivial, (by simp), (abc_call w hmem.globs).mono fun e w' h => ⟨h.1, h.2.os, h.2.tape, h.2.output, h.2.size, fun b hb _ => h.2.block b hb⟩⟩
noncomputable def c_abc : List SV → Option (List Prop × SV)
  | [] => some ([], .bool true)
  | _ => none
theorem c_abc_e : PEntry Tryd.prog 10 c_abc := by
  refine ⟨callFunc_ok Tryd.func10 (by kernel_rfl) (by kernel_rfl), fun args ps v h hp => ?_⟩
  unfold c_abc at h
  split at h
  · cases h; exact abc_ok  
  · cases h
noncomputable def pt_Re : List (Nat × (List SV → Option (List Prop × SV))) := [(10, c_abc), (11, c_SFirst), (12, c_RFirst), (9, c_Roots)]
theorem pt_Re_ok : PureOK Tryd.prog (fun f => List.lookup f pt_Re) := pure_list pt_Re ⟨c_abc_e, c_SFirst_e, c_RFirst_e, c_Roots_e, trivial⟩
noncomputable abbrev cx_Re (must : Nat → Option Bool := fun _ => none) (loop : Nat → SS → Option LoopSpec := fun _ _ => none) : Ctx := ⟨tab, inl tab (fun f => List.lookup f pt_Re) fns (fun _ => {}) 1000 4, fun f => List.lookup f pt_Re, must, loop, 0, 0, fun _ => none⟩
theorem cx_Re_ok (must : Nat → Option Bool) (loop : Nat → SS → Option LoopSpec) : CxOK Tryd.prog (cx_Re must loop) := inl_ok mixed tab_ok pt_Re_ok fns_ok 4 _ _ _ _
theorem ShaRootsL_ok   : PureSem Tryd.prog 3 [] (.bool true) := by
  refine pure_intro mixed (cx_Re_ok (fun _ => none) (fun _ _ => none)) Tryd.func3 1000 rfl rfl ?_
  refine of_nf (p := (true = true → (Bool.rec ((fun (_ : Unit) => false) ()) ((fun (_ : Unit) => (3144134277 : Int) == bitsV (3 : Int) false && ((1013904242 : Int) == bitsV (5 : Int) false && ((2773480762 : Int) == bitsV (7 : Int) false && ((1359893119 : Int) == bitsV (11 : Int) false && ((2600822924 : Int) == bitsV (13 : Int) false && ((528734635 : Int) == bitsV (17 : Int) false && ((1541459225 : Int) == bitsV (19 : Int) false && true))))))) ()) ((1779033703 : Int) == bitsV (2 : Int) false) = true → (Bool.rec ((fun (_ : Unit) => false) ()) ((fun (_ : Unit) => (3144134277 : Int) == bitsV (3 : Int) false && ((1013904242 : Int) == bitsV (5 : Int) false && ((2773480762 : Int) == bitsV (7 : Int) false && ((1359893119 : Int) == bitsV (11 : Int) false && ((2600822924 : Int) == bitsV (13 : Int) false && ((528734635 : Int) == bitsV (17 : Int) false && ((1541459225 : Int) == bitsV (19 : Int) false && true))))))) ()) ((1779033703 : Int) == bitsV (2 : Int) false) = true → (64 : Nat) = (64 : Nat) ∧ (64 : Nat) = (64 : Nat) ∧ true = true) ∧ (Bool.rec ((fun (_ : Unit) => false) ()) ((fun (_ : Unit) => (3144134277 : Int) == bitsV (3 : Int) false && ((1013904242 : Int) == bitsV (5 : Int) false && ((2773480762 : Int) == bitsV (7 : Int) false && ((1359893119 : Int) == bitsV (11 : Int) false && ((2600822924 : Int) == bitsV (13 : Int) false && ((528734635 : Int) == bitsV (17 : Int) false && ((1541459225 : Int) == bitsV (19 : Int) false && true))))))) ()) ((1779033703 : Int) == bitsV (2 : Int) false) = false → false = true)) ∧ (Bool.rec ((fun (_ : Unit) => false) ()) ((fun (_ : Unit) => (3144134277 : Int) == bitsV (3 : Int) false && ((1013904242 : Int) == bitsV (5 : Int) false && ((2773480762 : Int) == bitsV (7 : Int) false && ((1359893119 : Int) == bitsV (11 : Int) false && ((2600822924 : Int) == bitsV (13 : Int) false && ((528734635 : Int) == bitsV (17 : Int) false && ((1541459225 : Int) == bitsV (19 : Int) false && true))))))) ()) ((1779033703 : Int) == bitsV (2 : Int) false) = false → false = true)) ∧ (true = false → false = true)) (by kernel_rfl) ?_
  have f0 : bitsV 2 false = 1779033703 := (bitsV_eq _ _).trans (rf ⟨0, by omega⟩)
  have f1 : bitsV 3 false = 3144134277 := (bitsV_eq _ _).trans (rf ⟨1, by omega⟩)
  have f2 : bitsV 5 false = 1013904242 := (bitsV_eq _ _).trans (rf ⟨2, by omega⟩)
  have f3 : bitsV 7 false = 2773480762 := (bitsV_eq _ _).trans (rf ⟨3, by omega⟩)
  have f4 : bitsV 11 false = 1359893119 := (bitsV_eq _ _).trans (rf ⟨4, by omega⟩)
  have f5 : bitsV 13 false = 2600822924 := (bitsV_eq _ _).trans (rf ⟨5, by omega⟩)
  have f6 : bitsV 17 false = 528734635 := (bitsV_eq _ _).trans (rf ⟨6, by omega⟩)
  have f7 : bitsV 19 false = 1541459225 := (bitsV_eq _ _).trans (rf ⟨7, by omega⟩)
  simp only [f0, f1, f2, f3, f4, f5, f6, f7]
  exact ⟨fun _ => ⟨fun _ => ⟨fun _ => ⟨trivial, trivial, trivial⟩, fun h => Bool.noConfusion (show true = false from h)⟩, fun h => Bool.noConfusion (show true = false from h)⟩, fun h => Bool.noConfusion h⟩
end Go.Proofs.YtieeahpokociiaaDoor
