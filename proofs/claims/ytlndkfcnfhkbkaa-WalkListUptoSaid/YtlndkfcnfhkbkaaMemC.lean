/- A memory made, cloned, compared; its pages' words handed out. No condition beyond lengths. -/
import Derived.Test.YtlndkfcnfhkbkaaMemB
namespace Go.Proofs.Ytlndkfcnfhkbkaa
open Go.RowKit Sx
set_option linter.unusedVariables false
set_option linter.unusedSimpArgs false
set_option maxRecDepth 100000
set_option maxHeartbeats 4000000
theorem repl_snoc {A : Type} (x : Nat) (a : A) : (List.replicate x a).append [a] = List.replicate (x + 1) a := List.replicate_succ'.symm
theorem famEq {ty pty : TypeId} {k : IntKind} {n tot : Nat} {ps qs : List (List Int)} {ks : List Nat} (h : ps = qs) : Ob.fam (.boxes ty pty k n tot ps ks) = Ob.fam (.boxes ty pty k n tot qs ks) := by rw [h]
noncomputable def pt_mb : List (Nat × (List SV → Option (List Prop × SV))) := []
theorem pt_mb_ok : PureOK Try.prog (fun f => List.lookup f pt_mb) := pure_list pt_mb trivial
noncomputable abbrev cx_mb (must : Nat → Option Bool := fun _ => none) (loop : Nat → SS → Option LoopSpec := fun _ _ => none) (fz : Nat → SS → List Nat := fun _ _ => []) (on : Bool := false) : Ctx := ⟨tab, inl tab (fun f => List.lookup f pt_mb) fns (fun _ => {}) 1000 4, fun f => List.lookup f pt_mb, must, loop, 0, 0, fun _ => none, fz, on⟩
theorem cx_mb_ok (must : Nat → Option Bool) (loop : Nat → SS → Option LoopSpec) (fz : Nat → SS → List Nat) (on : Bool) : CxOK Try.prog (cx_mb must loop fz on) := inl_ok mixed tab_ok pt_mb_ok fns_ok 4 _ _ _ _ _ _
theorem made_ok (n : Int) (h0 : 1 ≤ n) (h1 : n ≤ 1048576) : SemCall Try.prog 149 [.int .i64 n] [] (AltK [⟨none, .on 0 n.toNat false, [some ⟨0, [], 0, some (.fam (.boxes 257 183 .u32 1024 n.toNat (List.replicate n.toNat (List.replicate 1024 0)) []))⟩]⟩]) := by
  refine con_intro mixed (cx_mb_ok (fun _ => none) (fun q s => bif Nat.beq q 3 then some ⟨Nat, fun k => s.upd [] [(9, .int .i64 (k : Int))] [(0, some ⟨0, [], 0, some (.fam (.boxes 257 183 .u32 1024 n.toNat (List.replicate k (List.replicate 1024 0)) []))⟩)], fun k => k ≤ n.toNat, fun k => n.toNat - k⟩ else none) (fun _ _ => []) false) Try.func149 1000 ?_
  refine of_nf (p := letI k0_ := (List.replicate (1024 : Nat) (0 : Int)); letI k1_ := (n.toNat = n.toNat /\ false = false); letI k2_ := (Value.slice none (0 : Nat) (0 : Nat)); (0 : Int) <= n /\ n = n /\ n <= 68719476736 /\ ∃ (x : Nat), (((0 : Int) = ((x : Nat) : Int) /\ ((n.toNat : Nat) : Int) = ((n.toNat : Nat) : Int) /\ k1_ /\ k1_ /\ k1_ /\ n = n /\ SV.val k2_ = SV.val k2_ /\ n = n /\ True) /\ (Ob.fam (FamT.boxes (257 : Nat) (183 : Nat) IntKind.u32 (1024 : Nat) n.toNat [] []) = Ob.fam (FamT.boxes (257 : Nat) (183 : Nat) IntKind.u32 (1024 : Nat) n.toNat (List.replicate x k0_) []) /\ (0 : Nat) = (0 : TypeId) /\ (0 : Nat) = (0 : Nat) /\ True) /\ True) /\ x.le n.toNat /\ ∀ (x : Nat), x.le n.toNat -> (decide (((x : Nat) : Int) < ((n.toNat : Nat) : Int)) = true -> (0 : Int) <= ((x : Nat) : Int) /\ ((x : Nat) : Int) < ((n.toNat : Nat) : Int) /\ (0 : Int) <= ((x : Nat) : Int) /\ (((x : Nat) : Int)).toNat = (List.replicate x k0_).length /\ (List.replicate x k0_).length < n.toNat /\ ((-9223372036854775808 : Int) <= ((x : Nat) : Int) + 1 /\ ((x : Nat) : Int) + 1 < (9223372036854775808 : Int)) /\ ∃ (y : Nat), ((((x : Nat) : Int) + 1 = ((y : Nat) : Int) /\ ((n.toNat : Nat) : Int) = ((n.toNat : Nat) : Int) /\ k1_ /\ k1_ /\ k1_ /\ n = n /\ SV.val k2_ = SV.val k2_ /\ n = n /\ True) /\ (Ob.fam (FamT.boxes (257 : TypeId) (183 : TypeId) IntKind.u32 (1024 : Nat) n.toNat ((List.replicate x k0_).append [List.replicate (1024 : Nat) (0 : Int)]) []) = Ob.fam (FamT.boxes (257 : Nat) (183 : Nat) IntKind.u32 (1024 : Nat) n.toNat (List.replicate y k0_) []) /\ (0 : Nat) = (0 : TypeId) /\ (0 : Nat) = (0 : Nat) /\ True) /\ True) /\ y.le n.toNat /\ n.toNat - y < n.toNat - x) /\ (decide (((x : Nat) : Int) < ((n.toNat : Nat) : Int)) = false -> (k1_ /\ True) /\ (Ob.fam (FamT.boxes (257 : Nat) (183 : Nat) IntKind.u32 (1024 : Nat) n.toNat (List.replicate x k0_) []) = Ob.fam (FamT.boxes (257 : Nat) (183 : Nat) IntKind.u32 (1024 : Nat) n.toNat (List.replicate n.toNat k0_) []) /\ (0 : TypeId) = (0 : TypeId) /\ (0 : Nat) = (0 : Nat) /\ True) /\ True)) (by kernel_rfl) ?_
  have hl : ∀ x : Nat, (List.replicate x (List.replicate 1024 (0 : Int))).length = x := fun x => by simp
  refine ⟨by omega, rfl, by omega, 0, ?_, Nat.zero_le _, fun x hx => ?_⟩
  · repeat' (first | with_reducible rfl | exact True.intro | apply And.intro)
    all_goals first | rfl | (simp; done)
  · have hx : x ≤ n.toNat := hx
    refine ⟨fun h => ?_, fun h => ?_⟩
    · have h := of_decide_eq_true h
      refine ⟨by omega, by omega, by omega, by rw [hl]; omega, by rw [hl]; omega, ⟨by omega, by omega⟩, x + 1, ?_, by show x + 1 ≤ _; omega, by omega⟩
      repeat' (first | with_reducible rfl | exact True.intro | apply And.intro)
      all_goals first | omega | exact famEq (repl_snoc _ _)
    · have h := of_decide_eq_false h
      obtain rfl : x = n.toNat := by omega
      repeat' (first | with_reducible rfl | exact True.intro | apply And.intro)
noncomputable def c_made : ECon
  | [.int .i64 n], [] => some ([1 ≤ n, n ≤ 1048576], [⟨none, .on 0 n.toNat false, [some ⟨0, [], 0, some (.fam (.boxes 257 183 .u32 1024 n.toNat (List.replicate n.toNat (List.replicate 1024 0)) []))⟩]⟩])
  | _, _ => none
theorem c_made_e : EEntry Try.prog 149 c_made := by
  refine ⟨callFunc_ok Try.func149 (by kernel_rfl) (by kernel_rfl), fun args rows ps alts h hp => ?_⟩
  unfold c_made at h
  split at h
  · cases h; exact made_ok _ (hp _ (List.mem_of_getElem? (i := 0) rfl)) (hp _ (List.mem_of_getElem? (i := 1) rfl))
  · cases h
noncomputable def pt_mn : List (Nat × (List SV → Option (List Prop × SV))) := []
theorem pt_mn_ok : PureOK Try.prog (fun f => List.lookup f pt_mn) := pure_list pt_mn trivial
noncomputable def et_mn : List (Nat × ECon) := [(149, c_made)]
theorem et_mn_ok : ConOK Try.prog (fun f => List.lookup f et_mn) := con_list et_mn ⟨c_made_e, trivial⟩
noncomputable abbrev cx_mn (must : Nat → Option Bool := fun _ => none) (loop : Nat → SS → Option LoopSpec := fun _ _ => none) (fz : Nat → SS → List Nat := fun _ _ => []) (on : Bool := false) : Ctx := ⟨tab, inlC tab (fun f => List.lookup f pt_mn) (fun f => List.lookup f et_mn) fns (fun _ => {}) 1000 4, fun f => List.lookup f pt_mn, must, loop, 0, 0, fun f => List.lookup f et_mn, fz, on⟩
theorem cx_mn_ok (must : Nat → Option Bool) (loop : Nat → SS → Option LoopSpec) (fz : Nat → SS → List Nat) (on : Bool) : CxOK Try.prog (cx_mn must loop fz on) := inlC_ok mixed tab_ok pt_mn_ok et_mn_ok fns_ok 4 _ _ _ _ _ _
def inN (s i : Int) : Bool := decide (1 ≤ s) && (decide (s ≤ 64) && (decide (1 ≤ i) && decide (i ≤ 64)))
theorem New_ok (s i : Int)  : SemCall Try.prog 82 [.int .i64 s, .int .i64 i] [] (AltK [⟨some (inN s i = true), .tup [.ptr 0 0, .int .i64 0], [some ⟨181, [.on 1 s.toNat false, .on 2 i.toNat false, .int .i64 0], 0, none⟩, some ⟨0, [], 0, some (.fam (.boxes 257 183 .u32 1024 s.toNat (List.replicate s.toNat (List.replicate 1024 0)) []))⟩, some ⟨0, [], 0, some (.fam (.boxes 257 183 .u32 1024 i.toNat (List.replicate i.toNat (List.replicate 1024 0)) []))⟩]⟩, ⟨some (inN s i = false), .tup [.val (.pointer none), .int .i64 1], []⟩]) := by
  refine con_intro mixed (cx_mn_ok (fun _ => none) (fun _ _ => none) (fun _ _ => []) false) Try.func82 1000 ?_
  refine of_nf (p := letI k0_ := ((SV.val (Value.pointer none) = SV.val (Value.pointer none) /\ (1 : Int) = (1 : Int) /\ True) /\ True); letI k1_ := ((SV.val (Value.pointer none) = SV.ptr (0 : Nat) (0 : Nat) /\ (1 : Int) = (0 : Int) /\ True) /\ True); letI k2_ := (FamT.boxes (257 : Nat) (183 : Nat) IntKind.u32 (1024 : Nat) s.toNat (List.replicate s.toNat (List.replicate (1024 : Nat) (0 : Int))) []); letI k3_ := (FamT.boxes (257 : Nat) (183 : Nat) IntKind.u32 (1024 : Nat) i.toNat (List.replicate i.toNat (List.replicate (1024 : Nat) (0 : Int))) []); (decide (s < 1) = true -> inN s i = true /\ k1_ /\ False ∨ inN s i = false /\ k0_ /\ True) /\ (decide (s < 1) = false -> (decide (64 < s) = true -> inN s i = true /\ k1_ /\ False ∨ inN s i = false /\ k0_ /\ True) /\ (decide (64 < s) = false -> (decide (i < 1) = true -> inN s i = true /\ k1_ /\ False ∨ inN s i = false /\ k0_ /\ True) /\ (decide (i < 1) = false -> (decide (64 < i) = true -> inN s i = true /\ k1_ /\ False ∨ inN s i = false /\ k0_ /\ True) /\ (decide (64 < i) = false -> 1 <= s /\ s <= 1048576 /\ 1 <= i /\ i <= 1048576 /\ (inN s i = true /\ ((SV.ptr (0 : Nat) 0 = SV.ptr (0 : Nat) (0 : Nat) /\ (0 : Int) = (0 : Int) /\ True) /\ True) /\ (nat_lit 180 + (1 : Nat) = (181 : TypeId) /\ (0 : Nat) = (0 : Nat) /\ (s.toNat = s.toNat /\ false = false) /\ (i.toNat = i.toNat /\ false = false) /\ (0 : Int) = (0 : Int) /\ True) /\ (Ob.fam k2_ = Ob.fam k2_ /\ (0 : Nat) = (0 : TypeId) /\ (0 : Nat) = (0 : Nat) /\ True) /\ (Ob.fam k3_ = Ob.fam k3_ /\ (0 : Nat) = (0 : TypeId) /\ (0 : Nat) = (0 : Nat) /\ True) /\ True ∨ inN s i = false /\ ((SV.ptr (2 : Nat) 0 = SV.val (Value.pointer none) /\ (0 : Int) = (1 : Int) /\ True) /\ True) /\ True)))))) (by kernel_rfl) ?_
  unfold inN
  simp only [decide_eq_true_eq, decide_eq_false_iff_not]
  repeat' (first | apply And.intro | intro _hc)
  all_goals first | omega | (refine .inr ?_; ((repeat' (first | with_reducible rfl | exact True.intro | apply And.intro)) <;> first | rfl | (simp; omega))) | (refine .inl ?_; ((repeat' (first | with_reducible rfl | exact True.intro | apply And.intro)) <;> first | rfl | (simp; omega)))
end Go.Proofs.Ytlndkfcnfhkbkaa
