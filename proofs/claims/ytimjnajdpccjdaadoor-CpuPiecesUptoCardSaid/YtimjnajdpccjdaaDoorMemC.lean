/- A memory made, cloned, compared; its pages' words handed out. No condition beyond lengths. -/
import Derived.Test.YtimjnajdpccjdaaDoorMemB
namespace Go.Proofs.YtimjnajdpccjdaaDoor
open Go.RowKit Sx
set_option linter.unusedVariables false
set_option linter.unusedSimpArgs false
set_option maxRecDepth 100000
set_option maxHeartbeats 4000000
theorem repl_snoc {A : Type} (x : Nat) (a : A) : (List.replicate x a).append [a] = List.replicate (x + 1) a := List.replicate_succ'.symm
theorem take_snoc {ps : List (List Int)} {x : Nat} (h : x < ps.length) : (ps.take x).append [ps.getD ((x : Int)).toNat []] = ps.take (x + 1) := by
 rw [Int.toNat_natCast, List.getD_eq_getElem?_getD, List.getElem?_eq_getElem h]
 exact (List.take_succ_eq_append_getElem h).symm
theorem famEq {ty pty : TypeId} {k : IntKind} {n tot : Nat} {ps qs : List (List Int)} {ks : List Nat} (h : ps = qs) : Ob.fam (.boxes ty pty k n tot ps ks) = Ob.fam (.boxes ty pty k n tot qs ks) := by rw [h]
noncomputable def pt_mb : List (Nat × (List SV -> Option (List Prop × SV))) := []
theorem pt_mb_ok : PureOK Tryd.prog (fun f => List.lookup f pt_mb) := pure_list pt_mb trivial
noncomputable abbrev cx_mb (must : Nat -> Option Bool := fun _ => none) (loop : Nat -> SS -> Option LoopSpec := fun _ _ => none) : Ctx := ⟨tab, inl tab (fun f => List.lookup f pt_mb) fns (fun _ => {}) 1000 4, fun f => List.lookup f pt_mb, must, loop, 0, 0, fun _ => none⟩
theorem cx_mb_ok (must : Nat -> Option Bool) (loop : Nat -> SS -> Option LoopSpec) : CxOK Tryd.prog (cx_mb must loop) := inl_ok mixed tab_ok pt_mb_ok fns_ok 4 _ _ _ _
theorem made_ok (n : Int) (h0 : 1 <= n) (h1 : n <= 1048576) : SemCall Tryd.prog 72 [.int .i64 n] [] (AltK [⟨none, .on 0 n.toNat false, [some ⟨0, [], 0, some (.fam (.boxes 155 129 .u32 1024 n.toNat (List.replicate n.toNat (List.replicate 1024 0)) []))⟩]⟩]) := by
 refine con_intro mixed (cx_mb_ok (fun _ => none) (fun q s => bif Nat.beq q 3 then some ⟨Nat, fun k => s.upd [] [(9, .int .i64 (k : Int))] [(0, some ⟨0, [], 0, some (.fam (.boxes 155 129 .u32 1024 n.toNat (List.replicate k (List.replicate 1024 0)) []))⟩)], fun k => k <= n.toNat, fun k => n.toNat - k⟩ else none)) Tryd.func72 1000 ?_
 refine of_nf (p := letI k0_ := (List.replicate (1024 : Nat) (0 : Int)); letI k1_ := (n.toNat = n.toNat /\ false = false); letI k2_ := (Value.slice none (0 : Nat) (0 : Nat)); (0 : Int) <= n /\ n = n /\ n <= 68719476736 /\ ∃ (x : Nat), (((0 : Int) = ((x : Nat) : Int) /\ ((n.toNat : Nat) : Int) = ((n.toNat : Nat) : Int) /\ k1_ /\ k1_ /\ k1_ /\ n = n /\ SV.val k2_ = SV.val k2_ /\ n = n /\ True) /\ (Ob.fam (FamT.boxes (155 : Nat) (129 : Nat) IntKind.u32 (1024 : Nat) n.toNat [] []) = Ob.fam (FamT.boxes (155 : Nat) (129 : Nat) IntKind.u32 (1024 : Nat) n.toNat (List.replicate x k0_) []) /\ (0 : Nat) = (0 : TypeId) /\ (0 : Nat) = (0 : Nat) /\ True) /\ True) /\ x.le n.toNat /\ ∀ (x : Nat), x.le n.toNat -> (decide (((x : Nat) : Int) < ((n.toNat : Nat) : Int)) = true -> (0 : Int) <= ((x : Nat) : Int) /\ ((x : Nat) : Int) < ((n.toNat : Nat) : Int) /\ (0 : Int) <= ((x : Nat) : Int) /\ (((x : Nat) : Int)).toNat = (List.replicate x k0_).length /\ (List.replicate x k0_).length < n.toNat /\ ((-9223372036854775808 : Int) <= ((x : Nat) : Int) + 1 /\ ((x : Nat) : Int) + 1 < (9223372036854775808 : Int)) /\ ∃ (y : Nat), ((((x : Nat) : Int) + 1 = ((y : Nat) : Int) /\ ((n.toNat : Nat) : Int) = ((n.toNat : Nat) : Int) /\ k1_ /\ k1_ /\ k1_ /\ n = n /\ SV.val k2_ = SV.val k2_ /\ n = n /\ True) /\ (Ob.fam (FamT.boxes (155 : TypeId) (129 : TypeId) IntKind.u32 (1024 : Nat) n.toNat ((List.replicate x k0_).append [List.replicate (1024 : Nat) (0 : Int)]) []) = Ob.fam (FamT.boxes (155 : Nat) (129 : Nat) IntKind.u32 (1024 : Nat) n.toNat (List.replicate y k0_) []) /\ (0 : Nat) = (0 : TypeId) /\ (0 : Nat) = (0 : Nat) /\ True) /\ True) /\ y.le n.toNat /\ n.toNat - y < n.toNat - x) /\ (decide (((x : Nat) : Int) < ((n.toNat : Nat) : Int)) = false -> (k1_ /\ True) /\ (Ob.fam (FamT.boxes (155 : Nat) (129 : Nat) IntKind.u32 (1024 : Nat) n.toNat (List.replicate x k0_) []) = Ob.fam (FamT.boxes (155 : Nat) (129 : Nat) IntKind.u32 (1024 : Nat) n.toNat (List.replicate n.toNat k0_) []) /\ (0 : TypeId) = (0 : TypeId) /\ (0 : Nat) = (0 : Nat) /\ True) /\ True)) (by kernel_rfl) ?_
 have hl : ∀ x : Nat, (List.replicate x (List.replicate 1024 (0 : Int))).length = x := fun x => by simp
 refine ⟨by omega, rfl, by omega, 0, ?_, Nat.zero_le _, fun x hx => ?_⟩
 ·repeat' (first | with_reducible rfl | exact True.intro | apply And.intro)
  all_goals first | rfl | (simp; done)
 ·have hx : x <= n.toNat := hx
  refine ⟨fun h => ?_, fun h => ?_⟩
  ·have h := of_decide_eq_true h
   refine ⟨by omega, by omega, by omega, by rw [hl]; omega, by rw [hl]; omega, ⟨by omega, by omega⟩, x + 1, ?_, by show x + 1 <= _; omega, by omega⟩
   repeat' (first | with_reducible rfl | exact True.intro | apply And.intro)
   all_goals first | omega | exact famEq (repl_snoc _ _)
  ·have h := of_decide_eq_false h
   obtain rfl : x = n.toNat := by omega
   repeat' (first | with_reducible rfl | exact True.intro | apply And.intro)
noncomputable def c_made : ECon
 | [.int .i64 n], [] => some ([1 <= n, n <= 1048576], [⟨none, .on 0 n.toNat false, [some ⟨0, [], 0, some (.fam (.boxes 155 129 .u32 1024 n.toNat (List.replicate n.toNat (List.replicate 1024 0)) []))⟩]⟩])
 | _, _ => none
theorem c_made_e : EEntry Tryd.prog 72 c_made := by
 refine ⟨callFunc_ok Tryd.func72 (by kernel_rfl) (by kernel_rfl), fun args rows ps alts h hp => ?_⟩
 unfold c_made at h
 split at h
 ·cases h; exact made_ok _ (hp _ (List.mem_of_getElem? (i := 0) rfl)) (hp _ (List.mem_of_getElem? (i := 1) rfl))
 ·cases h
theorem eachPX_ok (v : Value) (n : Nat) (f : Nat -> Value) (ps : List (List Int)) (h0 : n = ps.length) (h1 : 1 <= n) (h2 : n <= 1048576) (h3 : (∀ p ∈ ps, p.length = 1024)) : SemCall Tryd.prog 52 [.rs 1 v n (fun e => [.rsa 1024 (f e) 1 (fun _ => [.ints .u32 1024 (ps.getD e [])]) 0 0])] [] (AltK [⟨none, .on 0 n false, [some ⟨0, [], 0, some (.fam (.boxes 155 129 .u32 1024 n ps []))⟩]⟩]) := by
 refine con_intro mixed (cx_mb_ok (fun _ => none) (fun q s => bif Nat.beq q 3 then some ⟨Nat, fun k => s.upd [] [(12, .int .i64 (k : Int))] [(0, some ⟨0, [], 0, some (.fam (.boxes 155 129 .u32 1024 n (ps.take k) []))⟩)], fun k => k <= n, fun k => n - k⟩ else none)) Tryd.func52 1000 ?_
 refine of_nf (p := (0 : Int) <= ((n : Nat) : Int) /\ ((n : Nat) : Int) = ((n : Nat) : Int) /\ ((n : Nat) : Int) <= 68719476736 /\ ∃ (x : Nat), (((0 : Int) = ((x : Nat) : Int) /\ ((n : Nat) : Int) = ((n : Nat) : Int) /\ ((SV.rs (1 : Nat) v n fun (e : Nat) => [SV.rsa (1024 : Nat) (f e) (1 : Nat) (fun (x : Nat) => [SV.ints IntKind.u32 (1024 : Nat) (ps.getD e [])]) (0 : Int) (0 : Nat)]) = SV.rs (1 : Nat) v n fun (e : Nat) => [SV.rsa (1024 : Nat) (f e) (1 : Nat) (fun (x : Nat) => [SV.ints IntKind.u32 (1024 : Nat) (ps.getD e [])]) (0 : Int) (0 : Nat)]) /\ ((((n : Nat) : Int)).toNat = (((n : Nat) : Int)).toNat /\ false = false) /\ ((((n : Nat) : Int)).toNat = (((n : Nat) : Int)).toNat /\ false = false) /\ ((n : Nat) : Int) = ((n : Nat) : Int) /\ ((SV.rs (1 : Nat) v n fun (e : Nat) => [SV.rsa (1024 : Nat) (f e) (1 : Nat) (fun (x : Nat) => [SV.ints IntKind.u32 (1024 : Nat) (ps.getD e [])]) (0 : Int) (0 : Nat)]) = SV.rs (1 : Nat) v n fun (e : Nat) => [SV.rsa (1024 : Nat) (f e) (1 : Nat) (fun (x : Nat) => [SV.ints IntKind.u32 (1024 : Nat) (ps.getD e [])]) (0 : Int) (0 : Nat)]) /\ SV.val (Value.slice none (0 : Nat) (0 : Nat)) = SV.val (Value.slice none (0 : Nat) (0 : Nat)) /\ ((SV.rs (1 : Nat) v n fun (e : Nat) => [SV.rsa (1024 : Nat) (f e) (1 : Nat) (fun (x : Nat) => [SV.ints IntKind.u32 (1024 : Nat) (ps.getD e [])]) (0 : Int) (0 : Nat)]) = SV.rs (1 : Nat) v n fun (e : Nat) => [SV.rsa (1024 : Nat) (f e) (1 : Nat) (fun (x : Nat) => [SV.ints IntKind.u32 (1024 : Nat) (ps.getD e [])]) (0 : Int) (0 : Nat)]) /\ True) /\ (Ob.fam (FamT.boxes (155 : Nat) (129 : Nat) IntKind.u32 (1024 : Nat) (((n : Nat) : Int)).toNat [] []) = Ob.fam (FamT.boxes (155 : Nat) (129 : Nat) IntKind.u32 (1024 : Nat) n (List.take x ps) []) /\ (0 : Nat) = (0 : TypeId) /\ (0 : Nat) = (0 : Nat) /\ True) /\ True) /\ x.le n /\ ∀ (x : Nat), x.le n -> (decide (((x : Nat) : Int) < ((n : Nat) : Int)) = true -> (0 : Int) <= ((x : Nat) : Int) /\ ((x : Nat) : Int) < ((n : Nat) : Int) /\ (0 : Int) <= ((x : Nat) : Int) /\ ((x : Nat) : Int) < (((((n : Nat) : Int)).toNat : Nat) : Int) /\ (0 : Int) <= ((x : Nat) : Int) /\ (((x : Nat) : Int)).toNat = (List.take x ps).length /\ (List.take x ps).length < n /\ ((-9223372036854775808 : Int) <= ((x : Nat) : Int) + 1 /\ ((x : Nat) : Int) + 1 < (9223372036854775808 : Int)) /\ ∃ (y : Nat), ((((x : Nat) : Int) + 1 = ((y : Nat) : Int) /\ ((n : Nat) : Int) = ((n : Nat) : Int) /\ ((SV.rs (1 : Nat) v n fun (e : Nat) => [SV.rsa (1024 : Nat) (f e) (1 : Nat) (fun (x : Nat) => [SV.ints IntKind.u32 (1024 : Nat) (ps.getD e [])]) (0 : Int) (0 : Nat)]) = SV.rs (1 : Nat) v n fun (e : Nat) => [SV.rsa (1024 : Nat) (f e) (1 : Nat) (fun (x : Nat) => [SV.ints IntKind.u32 (1024 : Nat) (ps.getD e [])]) (0 : Int) (0 : Nat)]) /\ ((((n : Nat) : Int)).toNat = (((n : Nat) : Int)).toNat /\ false = false) /\ ((((n : Nat) : Int)).toNat = (((n : Nat) : Int)).toNat /\ false = false) /\ ((n : Nat) : Int) = ((n : Nat) : Int) /\ ((SV.rs (1 : Nat) v n fun (e : Nat) => [SV.rsa (1024 : Nat) (f e) (1 : Nat) (fun (x : Nat) => [SV.ints IntKind.u32 (1024 : Nat) (ps.getD e [])]) (0 : Int) (0 : Nat)]) = SV.rs (1 : Nat) v n fun (e : Nat) => [SV.rsa (1024 : Nat) (f e) (1 : Nat) (fun (x : Nat) => [SV.ints IntKind.u32 (1024 : Nat) (ps.getD e [])]) (0 : Int) (0 : Nat)]) /\ SV.val (Value.slice none (0 : Nat) (0 : Nat)) = SV.val (Value.slice none (0 : Nat) (0 : Nat)) /\ ((SV.rs (1 : Nat) v n fun (e : Nat) => [SV.rsa (1024 : Nat) (f e) (1 : Nat) (fun (x : Nat) => [SV.ints IntKind.u32 (1024 : Nat) (ps.getD e [])]) (0 : Int) (0 : Nat)]) = SV.rs (1 : Nat) v n fun (e : Nat) => [SV.rsa (1024 : Nat) (f e) (1 : Nat) (fun (x : Nat) => [SV.ints IntKind.u32 (1024 : Nat) (ps.getD e [])]) (0 : Int) (0 : Nat)]) /\ True) /\ (Ob.fam (FamT.boxes (155 : TypeId) (129 : TypeId) IntKind.u32 (1024 : Nat) n ((List.take x ps).append [ps.getD (((x : Nat) : Int)).toNat []]) []) = Ob.fam (FamT.boxes (155 : Nat) (129 : Nat) IntKind.u32 (1024 : Nat) n (List.take y ps) []) /\ (0 : Nat) = (0 : TypeId) /\ (0 : Nat) = (0 : Nat) /\ True) /\ True) /\ y.le n /\ n - y < n - x) /\ (decide (((x : Nat) : Int) < ((n : Nat) : Int)) = false -> (((((n : Nat) : Int)).toNat = n /\ false = false) /\ True) /\ (Ob.fam (FamT.boxes (155 : Nat) (129 : Nat) IntKind.u32 (1024 : Nat) n (List.take x ps) []) = Ob.fam (FamT.boxes (155 : Nat) (129 : Nat) IntKind.u32 (1024 : Nat) n ps []) /\ (0 : TypeId) = (0 : TypeId) /\ (0 : Nat) = (0 : Nat) /\ True) /\ True)) (by kernel_rfl) ?_
 have hl : ∀ x : Nat, x <= n -> (List.take x ps).length = x := fun x hx => by simp; omega
 refine ⟨by omega, rfl, by omega, 0, ?_, Nat.zero_le _, fun x hx => ?_⟩
 ·repeat' (first | with_reducible rfl | exact True.intro | apply And.intro)
  all_goals first | rfl | (simp; done)
 ·have hx : x <= n := hx
  have hlx := hl x hx
  refine ⟨fun h => ?_, fun h => ?_⟩
  ·have h := of_decide_eq_true h
   refine ⟨by omega, by omega, by omega, by omega, by omega, by omega, by omega, ⟨by omega, by omega⟩, x + 1, ?_, by show x + 1 <= _; omega, by omega⟩
   repeat' (first | with_reducible rfl | exact True.intro | apply And.intro)
   all_goals first | omega | exact famEq (take_snoc (by omega))
  ·have h := of_decide_eq_false h
   obtain rfl : x = n := by omega
   repeat' (first | with_reducible rfl | exact True.intro | apply And.intro)
   all_goals first | omega | exact famEq (List.take_of_length_le (by omega))
theorem pageReads {F0 : Nat -> Prop} (hF : ∀ y, ¬ F0 y) {ty pty : TypeId} {tot : Nat} {ps : List (List Int)} {w : World} {b : Nat × Nat} {S : Nat -> Prop} {gs : List Value} {c : Array Value} {pb : Nat -> Nat} (h : BoxOK ty pty .u32 1024 tot ps [] w b S gs c pb) :
 okdL w F0 0 [.rs 1 (.slice (some ⟨b.1, 0, none⟩) ps.length b.2) ps.length (fun e => [.rsa 1024 (.slice (some ⟨pb e, 0, none⟩) 1 1) 1 (fun _ => [.ints .u32 1024 (ps.getD e [])]) 0 0])] := by
 have hlt := (Array.getElem?_eq_some_iff.1 h.list).1
 refine ⟨⟨⟨fun _ _ => rfl, .inr ⟨b.1, 0, b.2, rfl, Nat.le_trans h.fill h.room, hlt, hF _, fun e he j hj => ?_⟩⟩, fun e he => ⟨⟨⟨⟨fun _ _ => ?_, .inr ⟨pb e, 0, 1, rfl, Nat.le_refl _, ?_, hF _, fun e' he' j hj => ?_⟩⟩, fun _ _ => ⟨trivial, trivial⟩⟩, by omega, by omega, by omega⟩, trivial⟩⟩, trivial⟩
 ·obtain rfl : j = 0 := by omega
  have hc := h.ptr e he
  simp only [World.cell?, h.list, Nat.zero_add, Nat.mul_one, Nat.add_zero]
  simpa [cellsL, den, elemCell] using hc
 ·simp [cellsL, intCells]
 ·exact (Array.getElem?_eq_some_iff.1 (h.box e he (by simp))).1
 ·obtain rfl : e' = 0 := by omega
  have hb := h.box e he (by simp)
  simp only [World.cell?, hb]
  have : j < (intCells .u32 1024 (ps.getD e [])).length := by simp [intCells]; omega
  simp [cellsL]
  rw [List.getElem?_eq_getElem (by simp [intCells]; omega)]
  rfl
theorem each_ok (a ta : Nat) (ps : List (List Int)) (h0 : a = ps.length) (h1 : 1 <= a) (h2 : a <= 1048576) (h3 : (∀ p ∈ ps, p.length = 1024)) : SemCall Tryd.prog 52 [.on 0 a false] [some ⟨0, [], 0, some (.fam (.boxes 155 129 .u32 1024 ta ps []))⟩] (AltK [⟨none, .on 1 a false, [some ⟨0, [], 0, some (.fam (.boxes 155 129 .u32 1024 ta ps []))⟩, some ⟨0, [], 0, some (.fam (.boxes 155 129 .u32 1024 a ps []))⟩]⟩]) := by
 intro W F ρ w hm ho
 obtain ⟨S, gs, c, pb, hg, hb⟩ := hm.famAt (i := 0) rfl
 subst h0
 exact con_at (l := []) (m := 0) (R := [some ⟨0, [], 0, some (.fam (.boxes 155 129 .u32 1024 ta ps []))⟩]) (args := [.on 0 ps.length false]) (args' := [.rs 1 (.slice (some ⟨(ρ 0).1, 0, none⟩) ps.length (ρ 0).2) ps.length (fun e => [.rsa 1024 ((fun e => Value.slice (some ⟨pb e, 0, none⟩) 1 1) e) 1 (fun _ => [.ints .u32 1024 (ps.getD e [])]) 0 0])]) (args0 := [.rs 1 (.slice (some ⟨(ρ 0).1, 0, none⟩) ps.length (ρ 0).2) ps.length (fun e => [.rsa 1024 ((fun e => Value.slice (some ⟨pb e, 0, none⟩) 1 1) e) 1 (fun _ => [.ints .u32 1024 (ps.getD e [])]) 0 0])]) rfl rfl (eachPX_ok (.slice (some ⟨(ρ 0).1, 0, none⟩) ps.length (ρ 0).2) ps.length (fun e => .slice (some ⟨pb e, 0, none⟩) 1 1) ps rfl h1 h2 h3)
  (K := AltK [⟨none, .on 1 ps.length false, [some ⟨0, [], 0, some (.fam (.boxes 155 129 .u32 1024 ta ps []))⟩, some ⟨0, [], 0, some (.fam (.boxes 155 129 .u32 1024 ps.length ps []))⟩]⟩]) ⟨_, List.mem_singleton.2 rfl, trivial, rfl, rfl⟩ hm rfl fun F0 _ _ hF => okdL_mono (Nat.zero_le _) (pageReads (hF rfl) hb)
noncomputable def c_each : ECon
 | [.on 0 a false], [some ⟨0, [], 0, some (.fam (.boxes 155 129 .u32 1024 ta ps []))⟩] => some ([a = ps.length, 1 <= a, a <= 1048576, (∀ p ∈ ps, p.length = 1024)], [⟨none, .on 1 a false, [some ⟨0, [], 0, some (.fam (.boxes 155 129 .u32 1024 ta ps []))⟩, some ⟨0, [], 0, some (.fam (.boxes 155 129 .u32 1024 a ps []))⟩]⟩])
 | _, _ => none
theorem c_each_e : EEntry Tryd.prog 52 c_each := by
 refine ⟨callFunc_ok Tryd.func52 (by kernel_rfl) (by kernel_rfl), fun args rows ps alts h hp => ?_⟩
 unfold c_each at h
 split at h
 ·cases h; exact each_ok _ _ _ (hp _ (List.mem_of_getElem? (i := 0) rfl)) (hp _ (List.mem_of_getElem? (i := 1) rfl)) (hp _ (List.mem_of_getElem? (i := 2) rfl)) (hp _ (List.mem_of_getElem? (i := 3) rfl))
 ·cases h
theorem alike_ok (a b ta tb : Nat) (ps qs : List (List Int)) (h0 : a = ps.length) (h1 : b = qs.length) (h2 : a <= 1048576) (h3 : (∀ p ∈ ps, p.length = 1024)) (h4 : (∀ p ∈ qs, p.length = 1024)) : SemCall Tryd.prog 65 [.on 0 a false, .on 1 b false] [some ⟨0, [], 0, some (.fam (.boxes 155 129 .u32 1024 ta ps []))⟩, some ⟨0, [], 0, some (.fam (.boxes 155 129 .u32 1024 tb qs []))⟩] (AltK [⟨none, .bool (decide (ps = qs)), [some ⟨0, [], 0, some (.fam (.boxes 155 129 .u32 1024 ta ps []))⟩, some ⟨0, [], 0, some (.fam (.boxes 155 129 .u32 1024 tb qs []))⟩]⟩]) := by
 intro W F ρ w hm ho
 obtain ⟨S, gs, c, pb, hg, hb⟩ := hm.famAt (i := 0) rfl
 obtain ⟨S', gs', c', pb', hg', hb'⟩ := hm.famAt (i := 1) rfl
 subst h0 h1
 obtain ⟨_, _, hc⟩ := alikePX_ok (.slice (some ⟨(ρ 0).1, 0, none⟩) ps.length (ρ 0).2) (.slice (some ⟨(ρ 1).1, 0, none⟩) qs.length (ρ 1).2) ps.length qs.length (fun e => .slice (some ⟨pb e, 0, none⟩) 1 1) (fun e => .slice (some ⟨pb' e, 0, none⟩) 1 1) ps qs rfl rfl h3 h4 (by omega) w (fun _ => False) ρ [] w (memOK_nil hm ρ)
  ⟨(pageReads (fun _ h => h) hb).1, (pageReads (fun _ h => h) hb').1, trivial⟩
 refine hc.mono ?_
 rintro e w' ⟨rfl, hfr⟩
 exact ⟨ρ, _, _, ⟨_, List.mem_singleton.2 rfl, trivial, rfl, rfl⟩, rfl, trivial, hm.step hfr, Nat.le_refl _, fun _ _ => rfl⟩
noncomputable def c_alike : ECon
 | [.on 0 a false, .on 1 b false], [some ⟨0, [], 0, some (.fam (.boxes 155 129 .u32 1024 ta ps []))⟩, some ⟨0, [], 0, some (.fam (.boxes 155 129 .u32 1024 tb qs []))⟩] => some ([a = ps.length, b = qs.length, a <= 1048576, (∀ p ∈ ps, p.length = 1024), (∀ p ∈ qs, p.length = 1024)], [⟨none, .bool (decide (ps = qs)), [some ⟨0, [], 0, some (.fam (.boxes 155 129 .u32 1024 ta ps []))⟩, some ⟨0, [], 0, some (.fam (.boxes 155 129 .u32 1024 tb qs []))⟩]⟩])
 | _, _ => none
theorem c_alike_e : EEntry Tryd.prog 65 c_alike := by
 refine ⟨callFunc_ok Tryd.func65 (by kernel_rfl) (by kernel_rfl), fun args rows ps alts h hp => ?_⟩
 unfold c_alike at h
 split at h
 ·cases h; exact alike_ok _ _ _ _ _ _ (hp _ (List.mem_of_getElem? (i := 0) rfl)) (hp _ (List.mem_of_getElem? (i := 1) rfl)) (hp _ (List.mem_of_getElem? (i := 2) rfl)) (hp _ (List.mem_of_getElem? (i := 3) rfl)) (hp _ (List.mem_of_getElem? (i := 4) rfl))
 ·cases h
noncomputable def pt_mn : List (Nat × (List SV -> Option (List Prop × SV))) := []
theorem pt_mn_ok : PureOK Tryd.prog (fun f => List.lookup f pt_mn) := pure_list pt_mn trivial
noncomputable def et_mn : List (Nat × ECon) := [(72, c_made)]
theorem et_mn_ok : ConOK Tryd.prog (fun f => List.lookup f et_mn) := con_list et_mn ⟨c_made_e, trivial⟩
noncomputable abbrev cx_mn (must : Nat -> Option Bool := fun _ => none) (loop : Nat -> SS -> Option LoopSpec := fun _ _ => none) : Ctx := ⟨tab, inlC tab (fun f => List.lookup f pt_mn) (fun f => List.lookup f et_mn) fns (fun _ => {}) 1000 4, fun f => List.lookup f pt_mn, must, loop, 0, 0, fun f => List.lookup f et_mn⟩
theorem cx_mn_ok (must : Nat -> Option Bool) (loop : Nat -> SS -> Option LoopSpec) : CxOK Tryd.prog (cx_mn must loop) := inlC_ok mixed tab_ok pt_mn_ok et_mn_ok fns_ok 4 _ _ _ _
noncomputable def pt_mk : List (Nat × (List SV -> Option (List Prop × SV))) := []
theorem pt_mk_ok : PureOK Tryd.prog (fun f => List.lookup f pt_mk) := pure_list pt_mk trivial
noncomputable def et_mk : List (Nat × ECon) := [(52, c_each)]
theorem et_mk_ok : ConOK Tryd.prog (fun f => List.lookup f et_mk) := con_list et_mk ⟨c_each_e, trivial⟩
noncomputable abbrev cx_mk (must : Nat -> Option Bool := fun _ => none) (loop : Nat -> SS -> Option LoopSpec := fun _ _ => none) : Ctx := ⟨tab, inlC tab (fun f => List.lookup f pt_mk) (fun f => List.lookup f et_mk) fns (fun _ => {}) 1000 4, fun f => List.lookup f pt_mk, must, loop, 0, 0, fun f => List.lookup f et_mk⟩
theorem cx_mk_ok (must : Nat -> Option Bool) (loop : Nat -> SS -> Option LoopSpec) : CxOK Tryd.prog (cx_mk must loop) := inlC_ok mixed tab_ok pt_mk_ok et_mk_ok fns_ok 4 _ _ _ _
def inN (s i : Int) : Bool := decide (1 <= s) && (decide (s <= 64) && (decide (1 <= i) && decide (i <= 64)))
theorem New_ok (s i : Int)  : SemCall Tryd.prog 38 [.int .i64 s, .int .i64 i] [] (AltK [⟨some (inN s i = true), .tup [.ptr 0 0, .int .i64 0], [some ⟨120, [.on 1 s.toNat false, .on 2 i.toNat false, .int .i64 0], 0, none⟩, some ⟨0, [], 0, some (.fam (.boxes 155 129 .u32 1024 s.toNat (List.replicate s.toNat (List.replicate 1024 0)) []))⟩, some ⟨0, [], 0, some (.fam (.boxes 155 129 .u32 1024 i.toNat (List.replicate i.toNat (List.replicate 1024 0)) []))⟩]⟩, ⟨some (inN s i = false), .tup [.val (.pointer none), .int .i64 1], []⟩]) := by
 refine con_intro mixed (cx_mn_ok (fun _ => none) (fun _ _ => none)) Tryd.func38 1000 ?_
 refine of_nf (p := letI k0_ := ((SV.val (Value.pointer none) = SV.val (Value.pointer none) /\ (1 : Int) = (1 : Int) /\ True) /\ True); letI k1_ := ((SV.val (Value.pointer none) = SV.ptr (0 : Nat) (0 : Nat) /\ (1 : Int) = (0 : Int) /\ True) /\ True); letI k2_ := (FamT.boxes (155 : Nat) (129 : Nat) IntKind.u32 (1024 : Nat) s.toNat (List.replicate s.toNat (List.replicate (1024 : Nat) (0 : Int))) []); letI k3_ := (FamT.boxes (155 : Nat) (129 : Nat) IntKind.u32 (1024 : Nat) i.toNat (List.replicate i.toNat (List.replicate (1024 : Nat) (0 : Int))) []); (decide (s < 1) = true -> inN s i = true /\ k1_ /\ False ∨ inN s i = false /\ k0_ /\ True) /\ (decide (s < 1) = false -> (decide (64 < s) = true -> inN s i = true /\ k1_ /\ False ∨ inN s i = false /\ k0_ /\ True) /\ (decide (64 < s) = false -> (decide (i < 1) = true -> inN s i = true /\ k1_ /\ False ∨ inN s i = false /\ k0_ /\ True) /\ (decide (i < 1) = false -> (decide (64 < i) = true -> inN s i = true /\ k1_ /\ False ∨ inN s i = false /\ k0_ /\ True) /\ (decide (64 < i) = false -> 1 <= s /\ s <= 1048576 /\ 1 <= i /\ i <= 1048576 /\ (inN s i = true /\ ((SV.ptr (0 : Nat) 0 = SV.ptr (0 : Nat) (0 : Nat) /\ (0 : Int) = (0 : Int) /\ True) /\ True) /\ (nat_lit 119 + (1 : Nat) = (120 : TypeId) /\ (0 : Nat) = (0 : Nat) /\ (s.toNat = s.toNat /\ false = false) /\ (i.toNat = i.toNat /\ false = false) /\ (0 : Int) = (0 : Int) /\ True) /\ (Ob.fam k2_ = Ob.fam k2_ /\ (0 : Nat) = (0 : TypeId) /\ (0 : Nat) = (0 : Nat) /\ True) /\ (Ob.fam k3_ = Ob.fam k3_ /\ (0 : Nat) = (0 : TypeId) /\ (0 : Nat) = (0 : Nat) /\ True) /\ True ∨ inN s i = false /\ ((SV.ptr (2 : Nat) 0 = SV.val (Value.pointer none) /\ (0 : Int) = (1 : Int) /\ True) /\ True) /\ True)))))) (by kernel_rfl) ?_
 unfold inN
 simp only [decide_eq_true_eq, decide_eq_false_iff_not]
 repeat' (first | apply And.intro | intro _hc)
 all_goals first | omega | (refine .inr ?_; ((repeat' (first | with_reducible rfl | exact True.intro | apply And.intro)) <;> first | rfl | (simp; omega))) | (refine .inl ?_; ((repeat' (first | with_reducible rfl | exact True.intro | apply And.intro)) <;> first | rfl | (simp; omega)))
theorem Clone_ok (a b ta tb : Nat) (m : Int) (ps qs : List (List Int)) (h0 : a = ps.length) (h1 : b = qs.length) (h2 : 1 <= a) (h3 : 1 <= b) (h4 : a <= 1048576) (h5 : b <= 1048576) (h6 : (∀ p ∈ ps, p.length = 1024)) (h7 : (∀ p ∈ qs, p.length = 1024)) : SemCall Tryd.prog 12 [.ptr 0 0] [some ⟨120, [.on 1 a false, .on 2 b false, .int .i64 m], 0, none⟩, some ⟨0, [], 0, some (.fam (.boxes 155 129 .u32 1024 ta ps []))⟩, some ⟨0, [], 0, some (.fam (.boxes 155 129 .u32 1024 tb qs []))⟩] (AltK [⟨none, .ptr 3 0, [some ⟨120, [.on 1 a false, .on 2 b false, .int .i64 m], 0, none⟩, some ⟨0, [], 0, some (.fam (.boxes 155 129 .u32 1024 ta ps []))⟩, some ⟨0, [], 0, some (.fam (.boxes 155 129 .u32 1024 tb qs []))⟩, some ⟨120, [.on 4 a false, .on 5 b false, .int .i64 m], 0, none⟩, some ⟨0, [], 0, some (.fam (.boxes 155 129 .u32 1024 a ps []))⟩, some ⟨0, [], 0, some (.fam (.boxes 155 129 .u32 1024 b qs []))⟩]⟩]) := by
 refine con_intro mixed (cx_mk_ok (fun _ => none) (fun _ _ => none)) Tryd.func12 1000 ?_
 refine of_nf (p := a = ps.length /\ 1 <= a /\ a <= 1048576 /\ (∀ (p : List Int), p ∈ ps -> p.length = 1024) /\ b = qs.length /\ 1 <= b /\ b <= 1048576 /\ (∀ (p : List Int), p ∈ qs -> p.length = 1024) /\ (SV.ptr (3 : Nat) 0 = SV.ptr (3 : Nat) (0 : Nat) /\ True) /\ (nat_lit 119 + (1 : Nat) = (120 : TypeId) /\ (0 : Nat) = (0 : Nat) /\ (a = a /\ false = false) /\ (b = b /\ false = false) /\ m = m /\ True) /\ (Ob.fam (FamT.boxes (155 : Nat) (129 : Nat) IntKind.u32 (1024 : Nat) ta ps []) = Ob.fam (FamT.boxes (155 : Nat) (129 : Nat) IntKind.u32 (1024 : Nat) ta ps []) /\ (0 : Nat) = (0 : TypeId) /\ (0 : Nat) = (0 : Nat) /\ True) /\ (Ob.fam (FamT.boxes (155 : Nat) (129 : Nat) IntKind.u32 (1024 : Nat) tb qs []) = Ob.fam (FamT.boxes (155 : Nat) (129 : Nat) IntKind.u32 (1024 : Nat) tb qs []) /\ (0 : Nat) = (0 : TypeId) /\ (0 : Nat) = (0 : Nat) /\ True) /\ (nat_lit 119 + (1 : Nat) = (120 : TypeId) /\ (0 : Nat) = (0 : Nat) /\ (a = a /\ false = false) /\ (b = b /\ false = false) /\ m = m /\ True) /\ (Ob.fam (FamT.boxes (155 : Nat) (129 : Nat) IntKind.u32 (1024 : Nat) a ps []) = Ob.fam (FamT.boxes (155 : Nat) (129 : Nat) IntKind.u32 (1024 : Nat) a ps []) /\ (0 : Nat) = (0 : TypeId) /\ (0 : Nat) = (0 : Nat) /\ True) /\ (Ob.fam (FamT.boxes (155 : Nat) (129 : Nat) IntKind.u32 (1024 : Nat) b qs []) = Ob.fam (FamT.boxes (155 : Nat) (129 : Nat) IntKind.u32 (1024 : Nat) b qs []) /\ (0 : Nat) = (0 : TypeId) /\ (0 : Nat) = (0 : Nat) /\ True) /\ True) (by kernel_rfl) ?_
 repeat' (first | with_reducible rfl | exact True.intro | apply And.intro)
 all_goals first | assumption | rfl
theorem Meter_ok (a b ta tb : Nat) (m : Int) (ps qs : List (List Int))  : SemCall Tryd.prog 22 [.ptr 0 0] [some ⟨120, [.on 1 a false, .on 2 b false, .int .i64 m], 0, none⟩, some ⟨0, [], 0, some (.fam (.boxes 155 129 .u32 1024 ta ps []))⟩, some ⟨0, [], 0, some (.fam (.boxes 155 129 .u32 1024 tb qs []))⟩] (AltK [⟨none, .int .i64 m, [some ⟨120, [.on 1 a false, .on 2 b false, .int .i64 m], 0, none⟩, some ⟨0, [], 0, some (.fam (.boxes 155 129 .u32 1024 ta ps []))⟩, some ⟨0, [], 0, some (.fam (.boxes 155 129 .u32 1024 tb qs []))⟩]⟩]) := by
 refine con_intro mixed (cx_mb_ok (fun _ => none) (fun _ _ => none)) Tryd.func22 1000 ?_
 refine of_nf (p := (m = m /\ True) /\ ((120 : TypeId) = (120 : TypeId) /\ (0 : Nat) = (0 : Nat) /\ (a = a /\ false = false) /\ (b = b /\ false = false) /\ m = m /\ True) /\ (Ob.fam (FamT.boxes (155 : Nat) (129 : Nat) IntKind.u32 (1024 : Nat) ta ps []) = Ob.fam (FamT.boxes (155 : Nat) (129 : Nat) IntKind.u32 (1024 : Nat) ta ps []) /\ (0 : TypeId) = (0 : TypeId) /\ (0 : Nat) = (0 : Nat) /\ True) /\ (Ob.fam (FamT.boxes (155 : Nat) (129 : Nat) IntKind.u32 (1024 : Nat) tb qs []) = Ob.fam (FamT.boxes (155 : Nat) (129 : Nat) IntKind.u32 (1024 : Nat) tb qs []) /\ (0 : TypeId) = (0 : TypeId) /\ (0 : Nat) = (0 : Nat) /\ True) /\ True) (by kernel_rfl) ?_
 repeat' (first | with_reducible rfl | exact True.intro | apply And.intro)
end Go.Proofs.YtimjnajdpccjdaaDoor
