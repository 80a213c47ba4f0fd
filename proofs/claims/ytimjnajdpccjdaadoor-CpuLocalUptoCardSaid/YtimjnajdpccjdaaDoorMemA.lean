/- Pages of a memory: where a frame stands; are two lists of pages alike? No condition beyond lengths. -/
import Derived.Test.YtimjnajdpccjdaaDoorSxTypes
import Derived.Test.YtimjnajdpccjdaaDoorSxD
namespace Go.Proofs.YtimjnajdpccjdaaDoor
set_option linter.unusedVariables false
set_option linter.unusedSimpArgs false
open Go.RowKit Sx
set_option maxRecDepth 100000
set_option maxHeartbeats 4000000
def atV (t : Bool) (k : Int) (ns ni : Nat) (f g : Nat → Value) : Value := if t = true then (if 0 ≤ k ∧ k < ns then f k.toNat else .pointer none) else (if 0 ≤ k ∧ k < ni then g k.toNat else .pointer none)
noncomputable def pt_mz : List (Nat × (List SV → Option (List Prop × SV))) := []
theorem pt_mz_ok : PureOK Tryd.prog (fun f => List.lookup f pt_mz) := pure_list pt_mz trivial
noncomputable abbrev cx_mz (must : Nat → Option Bool := fun _ => none) (loop : Nat → SS → Option LoopSpec := fun _ _ => none) (fz : Nat → SS → List Nat := fun _ _ => []) (on : Bool := false) : Ctx := ⟨tab, inl tab (fun f => List.lookup f pt_mz) fns (fun _ => {}) 1000 4, fun f => List.lookup f pt_mz, must, loop, 0, 0, fun _ => none, fz, on⟩
theorem cx_mz_ok (must : Nat → Option Bool) (loop : Nat → SS → Option LoopSpec) (fz : Nat → SS → List Nat) (on : Bool) : CxOK Tryd.prog (cx_mz must loop fz on) := inl_ok mixed tab_ok pt_mz_ok fns_ok 4 _ _ _ _ _ _
theorem atPX_ok (t : Bool) (k : Int) (v0 v1 v2 : Value) (ns ni : Nat) (f g : Nat → Value) (m : Int)  : PureSem Tryd.prog 58 [.rsa 3 v0 1 (fun _ => [.rs 1 v1 ns (fun e => [.val (f e)]), .rs 1 v2 ni (fun e => [.val (g e)]), .int .i64 m]) 0 0, .agg [.bool t, .int .i64 k]] (.val (atV t k ns ni f g)) := by
  refine pure_intro mixed (cx_mz_ok (fun _ => none) (fun _ _ => none) (fun _ _ => []) false) Tryd.func58 1000 rfl rfl ?_
  refine of_nf (p := (t = true -> (decide (k < 0) = true -> SV.val (Value.pointer none) = SV.val (atV t k ns ni f g)) /\ (decide (k < 0) = false -> (decide (((ns : Nat) : Int) <= k) = true -> SV.val (Value.pointer none) = SV.val (atV t k ns ni f g)) /\ (decide (((ns : Nat) : Int) <= k) = false -> 0 <= k /\ k < ((ns : Nat) : Int) /\ SV.val (f k.toNat) = SV.val (atV t k ns ni f g)))) /\ (t = false -> (decide (k < 0) = true -> SV.val (Value.pointer none) = SV.val (atV t k ns ni f g)) /\ (decide (k < 0) = false -> (decide (((ni : Nat) : Int) <= k) = true -> SV.val (Value.pointer none) = SV.val (atV t k ns ni f g)) /\ (decide (((ni : Nat) : Int) <= k) = false -> 0 <= k /\ k < ((ni : Nat) : Int) /\ SV.val (g k.toNat) = SV.val (atV t k ns ni f g))))) (by kernel_rfl) ?_
  simp only [decide_eq_true_eq, decide_eq_false_iff_not, atV]
  refine ⟨fun ht => ⟨fun h1 => ?_, fun h1 => ⟨fun h2 => ?_, fun h2 => ⟨by omega, by omega, ?_⟩⟩⟩, fun ht => ⟨fun h1 => ?_, fun h1 => ⟨fun h2 => ?_, fun h2 => ⟨by omega, by omega, ?_⟩⟩⟩⟩ <;> subst ht <;> simp only [if_true, Bool.false_eq_true, if_false] <;> first | rw [if_neg (by omega)] | rw [if_pos (by omega)]
theorem boxReads {ty pty : TypeId} {k : IntKind} {n tot : Nat} {ps : List (List Int)} {ks : List Nat} {w : World} {b : Nat × Nat} {S : Nat → Prop} {gs : List Value} {c : Array Value} {pb : Nat → Nat} (h : BoxOK ty pty k n tot ps ks w b S gs c pb) :
    ReadsS w (fun _ => False) 1 (.slice (some ⟨b.1, 0, none⟩) ps.length b.2) ps.length (fun e => [.pointer (some ⟨pb e, 0, none⟩)]) := by
  have hlt := (Array.getElem?_eq_some_iff.1 h.list).1
  refine ⟨fun _ _ => rfl, .inr ⟨b.1, 0, b.2, rfl, Nat.le_trans h.fill h.room, hlt, id, fun e he j hj => ?_⟩⟩
  obtain rfl : j = 0 := by omega
  have hc := h.ptr e he
  simp only [World.cell?, h.list, Nat.zero_add, Nat.mul_one, Nat.add_zero]
  simpa using hc
theorem globs_at {W : World} {F : Nat → Prop} {ρ : Num} {rows : List (Option Row)} {w : World} (hm : MemOK W F ρ rows w) : Globs w fun _ => False := by
  intro g cs hg
  obtain ⟨h1, c, ty, fr, h2, h3⟩ := hm.glob g cs hg
  have hlt := (Array.getElem?_eq_some_iff.1 h2).1
  exact ⟨id, c, ty, fr, by rw [hm.frame.block g hlt h1]; exact h2, h3⟩
theorem memOK_nil {W : World} {F : Nat → Prop} {ρ : Num} {rows : List (Option Row)} {w : World} (hm : MemOK W F ρ rows w) (ρ' : Num) : MemOK w (fun _ => False) ρ' [] w :=
  ⟨Frm.refl _ _, globs_at hm, fun i r h => by simp at h, fun i j r q h => by simp at h, fun i r h => by simp at h, ⟨fun _ _ => False, fun i r x h => by simp at h⟩⟩
theorem at_world {W : World} {F : Nat → Prop} {ρ : Num} {rows : List (Option Row)} {w : World} (hm : MemOK W F ρ rows w) {t1 t2 : TypeId} {cs1 cs2 : List SV} {ks1 ks2 : List Nat} {ps qs : List (List Int)} {a b ta tb : Nat} {m : Int}
    (h0 : rows[0]? = some (some ⟨120, [.on 1 a false, .on 2 b false, .int .i64 m], 0, none⟩)) (hA : rows[1]? = some (some ⟨t1, cs1, 0, some (.fam (.boxes 155 129 .u32 1024 ta ps ks1))⟩))
    (hB : rows[2]? = some (some ⟨t2, cs2, 0, some (.fam (.boxes 155 129 .u32 1024 tb qs ks2))⟩)) (ha : a = ps.length) (hb : b = qs.length) (t : Bool) (k : Int) :
    ∃ f g : Nat → Value, (∃ c : Array Value, w.heap[(ρ 1).1]? = some (.cells c 129 (0, 0)) ∧ ∀ j, j < ps.length → c[j]? = some (f j)) ∧ (∃ c : Array Value, w.heap[(ρ 2).1]? = some (.cells c 129 (0, 0)) ∧ ∀ j, j < qs.length → c[j]? = some (g j)) ∧
      Calls Tryd.prog 58 (denL ρ [.ptr 0 0, .agg [.bool t, .int .i64 k]]).toArray w fun e w' => e = .returned (atV t k ps.length qs.length f g) ∧ Frm (fun _ => False) w w' := by
  subst ha hb
  obtain ⟨S1, gs1, c1, pb1, _, b1⟩ := hm.famAt hA
  obtain ⟨S2, gs2, c2, pb2, _, b2⟩ := hm.famAt hB
  refine ⟨fun e => .pointer (some ⟨pb1 e, 0, none⟩), fun e => .pointer (some ⟨pb2 e, 0, none⟩), ⟨c1, b1.list, b1.ptr⟩, ⟨c2, b2.list, b2.ptr⟩, ?_⟩
  rcases (hm.row 0 _ h0).1 with ⟨_, c, l, rest, k1, k2, k3, k4, _⟩ | ⟨hn, _⟩
  · have hr : rest = [] := k4 rfl
    subst hr
    obtain ⟨_, rfl, _, rfl, _, rfl, k3⟩ := k3
    obtain rfl := k3
    have hlt := (Array.getElem?_eq_some_iff.1 k1).1
    have hr0 : ReadsS w (fun _ => False) 3 (.slice (some ⟨(ρ 0).1, 0, none⟩) 1 1) 1 (fun _ => cellsL Num.zero [.rs 1 (.slice (some ⟨(ρ 1).1, 0, none⟩) ps.length (ρ 1).2) ps.length (fun e => [.val (.pointer (some ⟨pb1 e, 0, none⟩))]), .rs 1 (.slice (some ⟨(ρ 2).1, 0, none⟩) qs.length (ρ 2).2) qs.length (fun e => [.val (.pointer (some ⟨pb2 e, 0, none⟩))]), .int .i64 m]) := by
      refine ⟨fun _ _ => rfl, .inr ⟨(ρ 0).1, 0, 1, rfl, Nat.le_refl _, hlt, id, fun e he j hj => ?_⟩⟩
      obtain rfl : e = 0 := by omega
      have hcl : ∀ j, c[j]? = c.toList[j]? := fun j => (Array.getElem?_toList (xs := c) (i := j)).symm
      simp only [World.cell?, k1]
      simp only [Option.isSome_none, Bool.false_eq_true, if_false, hcl, k2]
      rcases (by omega : j = 0 ∨ j = 1 ∨ j = 2) with rfl | rfl | rfl <;> simp [den, listV, cellsL]
    obtain ⟨_, _, hc⟩ := atPX_ok t k (.slice (some ⟨(ρ 0).1, 0, none⟩) 1 1) (.slice (some ⟨(ρ 1).1, 0, none⟩) ps.length (ρ 1).2) (.slice (some ⟨(ρ 2).1, 0, none⟩) qs.length (ρ 2).2) ps.length qs.length (fun e => .pointer (some ⟨pb1 e, 0, none⟩)) (fun e => .pointer (some ⟨pb2 e, 0, none⟩)) m w (fun _ => False) ρ [] w (memOK_nil hm ρ)
      ⟨⟨⟨hr0, fun e he => ⟨⟨boxReads b1, fun e he => ⟨trivial, trivial⟩⟩, ⟨boxReads b2, fun e he => ⟨trivial, trivial⟩⟩, trivial, trivial⟩⟩, by omega, by omega, by omega⟩, ⟨trivial, trivial, trivial⟩, trivial⟩
    exact hc
  · exact absurd ⟨rfl, .inl rfl⟩ hn
end Go.Proofs.YtimjnajdpccjdaaDoor
