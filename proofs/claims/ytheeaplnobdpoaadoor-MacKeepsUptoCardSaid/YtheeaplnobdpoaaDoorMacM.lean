/- Lists in the midst of longer ones. No condition beyond lengths. -/
import Derived.Test.YtheeaplnobdpoaaDoorMacK
namespace Go.Proofs.YtheeaplnobdpoaaDoor
open Go.RowKit Sx
set_option linter.unusedVariables false
set_option linter.unusedSimpArgs false
set_option maxRecDepth 100000
set_option maxHeartbeats 8000000
/-- The inner digest behind k words of a message: state, words. -/
theorem iS_ex : ∃ f : List Int → List Int → Nat → List Int, ∀ ks ms k, f ks ms k = dgS (PK ks 54 ++ ms) (16 + k) := ⟨_, fun _ _ _ => rfl⟩
noncomputable def iS : List Int → List Int → Nat → List Int := Classical.choose iS_ex
theorem iS_eq (ks ms : List Int) (k : Nat) : iS ks ms k = dgS (PK ks 54 ++ ms) (16 + k) := Classical.choose_spec iS_ex ks ms k
theorem iW_ex : ∃ f : List Int → List Int → Nat → List Int, ∀ ks ms k, f ks ms k = dgW (PK ks 54 ++ ms) (16 + k) := ⟨_, fun _ _ _ => rfl⟩
noncomputable def iW : List Int → List Int → Nat → List Int := Classical.choose iW_ex
theorem iW_eq (ks ms : List Int) (k : Nat) : iW ks ms k = dgW (PK ks 54 ++ ms) (16 + k) := Classical.choose_spec iW_ex ks ms k
theorem i_0S (ks ms : List Int) : addSt IVL [] (PK ks 54) = iS ks ms 0 := by rw [iS_eq]; exact (in_0S ks ms).symm
theorem i_0W (ks ms : List Int) : addWs [] (PK ks 54) = iW ks ms 0 := by rw [iW_eq]; exact (in_0W ks ms).symm
theorem i_len (ks ms : List Int) {k : Nat} (h : k ≤ ms.length) : (iW ks ms k).length < 16 := by rw [iW_eq]; exact in_len ks ms h
theorem i_addS {ks ms : List Int} {k n : Nat} (h : k + n ≤ ms.length) : addSt (iS ks ms k) (iW ks ms k) ((ms.drop k).take n) = iS ks ms (k + n) := by rw [iS_eq, iW_eq, iS_eq]; exact in_addS h
theorem i_addW {ks ms : List Int} {k n : Nat} (h : k + n ≤ ms.length) : addWs (iW ks ms k) ((ms.drop k).take n) = iW ks ms (k + n) := by rw [iW_eq, iW_eq]; exact in_addW h
/-- Eight items alike. -/
def eq8 (a b : List Int) : Bool := a.getD 0 0 == b.getD 0 0 && (a.getD 1 0 == b.getD 1 0 && (a.getD 2 0 == b.getD 2 0 && (a.getD 3 0 == b.getD 3 0 && (a.getD 4 0 == b.getD 4 0 && (a.getD 5 0 == b.getD 5 0 && (a.getD 6 0 == b.getD 6 0 && (a.getD 7 0 == b.getD 7 0 && true)))))))
theorem oS_ex : ∃ f : List Int → List Int, ∀ ks, f ks = addSt IVL [] (PK ks 92) := ⟨_, fun _ => rfl⟩
noncomputable def oS : List Int → List Int := Classical.choose oS_ex
theorem oS_eq (ks : List Int) : oS ks = addSt IVL [] (PK ks 92) := Classical.choose_spec oS_ex ks
theorem oW_ex : ∃ f : List Int → List Int, ∀ ks, f ks = addWs [] (PK ks 92) := ⟨_, fun _ => rfl⟩
noncomputable def oW : List Int → List Int := Classical.choose oW_ex
theorem oW_eq (ks : List Int) : oW ks = addWs [] (PK ks 92) := Classical.choose_spec oW_ex ks
theorem i_tag {ks ms : List Int} {k : Nat} (hk : ∀ x ∈ ks, InK .u32 x) (hm : ∀ x ∈ ms, InK .u32 x) (h : k ≤ ms.length) : e8 (mT (iS ks ms k) (16 + (k : Int)) (iW ks ms k) (oS ks) 16 (oW ks)) = e8 (tagV (bV ks) (bV (ms.take k))) := by rw [iS_eq, iW_eq, oS_eq, oW_eq]; exact mT_tag hk hm h
theorem rP_ex : ∃ f : Int → Int → List Int → Nat → List Int, ∀ c m l k, f c m l k = c :: (l ++ List.replicate k m) := ⟨_, fun _ _ _ _ => rfl⟩
/-- A list behind one mark and ahead of so many. -/
noncomputable def rP : Int → Int → List Int → Nat → List Int := Classical.choose rP_ex
theorem rP_eq (c m : Int) (l : List Int) (k : Nat) : rP c m l k = c :: (l ++ List.replicate k m) := Classical.choose_spec rP_ex c m l k
theorem rP_0 (c m : Int) (l : List Int) : c :: l = rP c m l 0 := by rw [rP_eq]; simp
theorem rP_s (c m : Int) (l : List Int) (k : Nat) : rP c m l k ++ [m] = rP c m l (k + 1) := by
  rw [rP_eq, rP_eq, List.replicate_succ']; simp
theorem rP_len (c m : Int) (l : List Int) (k : Nat) : (rP c m l k).length = 1 + l.length + k := by rw [rP_eq]; simp; omega
theorem rP_mid (c m : Int) (l : List Int) (k : Nat) : List.take l.length (List.drop 1 (rP c m l k)) = l := by rw [rP_eq]; simp
theorem rP_in {c m : Int} {l : List Int} {K : IntKind} (hc : InK K c) (hm : InK K m) (hl : ∀ x ∈ l, InK K x) (k : Nat) : ∀ x ∈ rP c m l k, InK K x := by
  intro x hx
  rw [rP_eq] at hx
  rcases List.mem_cons.1 hx with rfl | hx
  · exact hc
  · rcases List.mem_append.1 hx with hx | hx
    · exact hl x hx
    · rw [(List.mem_replicate.1 hx).2]; exact hm
theorem sF_ex : ∃ f : Int → List Int → Nat → List Int, ∀ c l k, f c l k = List.replicate k c ++ l.drop k := ⟨_, fun _ _ _ => rfl⟩
/-- A list whose first items are written over. -/
noncomputable def sF : Int → List Int → Nat → List Int := Classical.choose sF_ex
theorem sF_eq (c : Int) (l : List Int) (k : Nat) : sF c l k = List.replicate k c ++ l.drop k := Classical.choose_spec sF_ex c l k
theorem sF_0 (c : Int) (l : List Int) : l = sF c l 0 := by rw [sF_eq]; simp
theorem sF_len (c : Int) {l : List Int} {k : Nat} (h : k ≤ l.length) : (sF c l k).length = l.length := by rw [sF_eq]; simp; omega
theorem sF_s (c : Int) {l : List Int} {k : Nat} (h : k < l.length) : (sF c l k).set k c = sF c l (k + 1) := by
  rw [sF_eq, sF_eq, List.set_append_right _ _ (by simp), List.length_replicate, Nat.sub_self, List.drop_eq_getElem_cons h, List.set_cons_zero, List.replicate_succ']
  simp
theorem sF_get (c : Int) (l : List Int) {k j : Nat} (h : j < k) : (sF c l k).getD j 0 = c := by
  rw [sF_eq, List.getD_eq_getElem?_getD, List.getElem?_append_left (by simpa using h), List.getElem?_replicate, if_pos h]
  rfl
theorem sF_in {c : Int} {l : List Int} {K : IntKind} (hc : InK K c) (hl : ∀ x ∈ l, InK K x) (k : Nat) : ∀ x ∈ sF c l k, InK K x := by
  intro x hx
  rw [sF_eq] at hx
  rcases List.mem_append.1 hx with hx | hx
  · rw [(List.mem_replicate.1 hx).2]; exact hc
  · exact hl x (List.mem_of_mem_drop hx)
theorem iF_ex : ∃ f : List Int → Nat → List Int, ∀ l k, f l k = (l.take k).map (fun x => IntKind.u8.wrap (x + 1)) ++ l.drop k := ⟨_, fun _ _ => rfl⟩
/-- A list whose first items are one more. -/
noncomputable def iF : List Int → Nat → List Int := Classical.choose iF_ex
theorem iF_eq (l : List Int) (k : Nat) : iF l k = (l.take k).map (fun x => IntKind.u8.wrap (x + 1)) ++ l.drop k := Classical.choose_spec iF_ex l k
theorem iF_0 (l : List Int) : l = iF l 0 := by rw [iF_eq]; simp
theorem iF_len {l : List Int} {k : Nat} (h : k ≤ l.length) : (iF l k).length = l.length := by rw [iF_eq]; simp; omega
theorem iF_get {l : List Int} {k : Nat} (h : k < l.length) : (iF l k).getD k 0 = l.getD k 0 := by
  rw [iF_eq, List.getD_eq_getElem?_getD, List.getElem?_append_right (by simp; omega)]
  simp only [List.length_map, List.length_take]
  rw [show k - min k l.length = 0 by omega, List.getElem?_drop, Nat.add_zero, ← List.getD_eq_getElem?_getD]
theorem iF_s {l : List Int} {k : Nat} (h : k < l.length) : (iF l k).set k (IntKind.u8.wrap (l.getD k 0 + 1)) = iF l (k + 1) := by
  rw [iF_eq, iF_eq, List.set_append_right _ _ (by simp; omega)]
  simp only [List.length_map, List.length_take]
  rw [show k - min k l.length = 0 by omega, List.drop_eq_getElem_cons h, List.set_cons_zero, List.take_add_one, List.getElem?_eq_getElem h, List.getD_eq_getElem?_getD, List.getElem?_eq_getElem h, List.map_append]
  simp
theorem iF_in {l : List Int} (hl : ∀ x ∈ l, InK .u8 x) (k : Nat) : ∀ x ∈ iF l k, InK .u8 x := by
  intro x hx
  rw [iF_eq] at hx
  rcases List.mem_append.1 hx with hx | hx
  · obtain ⟨y, _, rfl⟩ := List.mem_map.1 hx
    exact wrap8_in _
  · exact hl x (List.mem_of_mem_drop hx)
theorem sub_in {l : List Int} {K : IntKind} (hl : ∀ x ∈ l, InK K x) (a b : Nat) : ∀ x ∈ List.take a (List.drop b l), InK K x := fun x hx => hl x (List.mem_of_mem_drop (List.mem_of_mem_take hx))
noncomputable def pt_Ma : List (Nat × (List SV → Option (List Prop × SV))) := []
theorem pt_Ma_ok : PureOK Tryd.prog (fun f => List.lookup f pt_Ma) := pure_list pt_Ma trivial
noncomputable abbrev cx_Ma (must : Nat → Option Bool := fun _ => none) (loop : Nat → SS → Option LoopSpec := fun _ _ => none) : Ctx := ⟨tab, inl tab (fun f => List.lookup f pt_Ma) fns (fun _ => {}) 1000 4, fun f => List.lookup f pt_Ma, must, loop, 0, 0, fun _ => none⟩
theorem cx_Ma_ok (must : Nat → Option Bool) (loop : Nat → SS → Option LoopSpec) : CxOK Tryd.prog (cx_Ma must loop) := inl_ok mixed tab_ok pt_Ma_ok fns_ok 4 _ _ _ _
theorem roomy_ok (v : Value) (ks : List Int) (h0 : ks.length ≤ 1048576) : SemCall Tryd.prog 25 [.rd .u32 v ks] [] (AltK [⟨none, .on 0 (1 + ks.length + 200) false, [some ⟨28, [.ints .u32 (1 + ks.length + 200) (rP 65261 48879 ks 200)], 1, none⟩]⟩]) := by
  refine con_intro mixed (cx_Ma_ok (fun _ => none) (fun q s => bif Nat.beq q 4 then some ⟨Nat, fun k => ⟨[(3, .on 0 (1 + ks.length + k) false), (4, .int .i64 (k : Int))], [some ⟨28, [.ints .u32 (1 + ks.length + k) (rP 65261 48879 ks k)], 1, none⟩]⟩, fun k => k ≤ 200, fun k => 200 - k⟩ else none)) Tryd.func25 1000 ?_
  refine of_nf (p := (1 : Nat) = (1 : Nat) ∧ (1 : Nat) = (1 : Nat) ∧ (1 : Nat) + ks.length ≤ (68719476736 : Nat) ∧ ∃ (x : Nat), ((((1 : Nat) + ks.length = (1 : Nat) + ks.length + x ∧ false = false) ∧ (0 : Int) = ((x : Nat) : Int) ∧ True) ∧ (nat_lit 27 + (1 : Nat) = (28 : TypeId) ∧ nat_lit 0 + (1 : Nat) = (1 : Nat) ∧ @Bool.rec (fun _ => Prop) False ((65261 : Int) :: ks = rP (65261 : Int) (48879 : Int) ks x) (true && ((1 : Nat) + ks.length).beq ((1 : Nat) + ks.length + x)) ∧ True) ∧ True) ∧ x.le (200 : Nat) ∧ ∀ (x : Nat), x.le (200 : Nat) → (decide (((x : Nat) : Int) < (200 : Int)) = true → (1 : Nat) + ks.length + x = (1 : Nat) + ks.length + x ∧ (rP (65261 : Int) (48879 : Int) ks x).length = (1 : Nat) + ks.length + x ∧ (1 : Nat) + ks.length + x + (1 : Nat) ≤ (68719476736 : Nat) ∧ ((-9223372036854775808 : Int) ≤ ((x : Nat) : Int) + (1 : Int) ∧ ((x : Nat) : Int) + (1 : Int) < (9223372036854775808 : Int)) ∧ ∃ (y : Nat), ((((1 : Nat) + ks.length + x + (1 : Nat) = (1 : Nat) + ks.length + y ∧ false = false) ∧ ((x : Nat) : Int) + (1 : Int) = ((y : Nat) : Int) ∧ True) ∧ (nat_lit 27 + (1 : Nat) = (28 : TypeId) ∧ nat_lit 0 + (1 : Nat) = (1 : Nat) ∧ @Bool.rec (fun _ => Prop) False ((rP (65261 : Int) (48879 : Int) ks x).append [(48879 : Int)] = rP (65261 : Int) (48879 : Int) ks y) (true && ((1 : Nat) + ks.length + x + (1 : Nat)).beq ((1 : Nat) + ks.length + y)) ∧ True) ∧ True) ∧ y.le (200 : Nat) ∧ (200 : Nat) - y < (200 : Nat) - x) ∧ (decide (((x : Nat) : Int) < (200 : Int)) = false → (((1 : Nat) + ks.length + x = (1 : Nat) + ks.length + (200 : Nat) ∧ false = false) ∧ True) ∧ ((28 : TypeId) = (28 : TypeId) ∧ (1 : Nat) = (1 : Nat) ∧ @Bool.rec (fun _ => Prop) False (rP (65261 : Int) (48879 : Int) ks x = rP (65261 : Int) (48879 : Int) ks (200 : Nat)) (true && ((1 : Nat) + ks.length + x).beq ((1 : Nat) + ks.length + (200 : Nat))) ∧ True) ∧ True)) (by kernel_rfl) ?_
  have hl := fun k => rP_len 65261 48879 ks k
  have happ : ∀ a b : List Int, a.append b = a ++ b := fun _ _ => rfl
  simp only [↓forall_eq, happ, hl, List.cons_append, List.nil_append]
  repeat' (first | with_reducible rfl | exact True.intro | with_reducible assumption | apply And.intro | intro _)
  all_goals try omega
  refine ⟨0, ?_, Nat.zero_le _, fun x hx => ⟨fun h => ?_, fun h => ?_⟩⟩
  · repeat' (first | with_reducible rfl | exact True.intro | with_reducible assumption | apply And.intro | apply pieceEq | intro _)
    all_goals first | omega | rfl | exact rP_0 _ _ _ | trace_state
  · have hx : x ≤ 200 := hx
    have h := of_decide_eq_true h
    repeat' (first | with_reducible rfl | exact True.intro | with_reducible assumption | apply And.intro | apply pieceEq | intro _ | refine Exists.intro (x + 1) ?_)
    all_goals first | omega | rfl | exact rP_s _ _ _ _ | (show x + 1 ≤ 200; omega) | trace_state
  · have hx : x ≤ 200 := hx
    have h := of_decide_eq_false h
    obtain rfl : x = 200 := by omega
    repeat' (first | with_reducible rfl | exact True.intro | with_reducible assumption | apply And.intro | apply pieceEq | intro _)
    all_goals first | omega | rfl | trace_state
noncomputable def c_roomy : ECon
  | [.rd .u32 v ks], [] => some ([ks.length ≤ 1048576], [⟨none, .on 0 (1 + ks.length + 200) false, [some ⟨28, [.ints .u32 (1 + ks.length + 200) (rP 65261 48879 ks 200)], 1, none⟩]⟩])
  | _, _ => none
theorem c_roomy_e : EEntry Tryd.prog 25 c_roomy := by
  refine ⟨callFunc_ok Tryd.func25 (by kernel_rfl) (by kernel_rfl), fun args rows ps alts h hp => ?_⟩
  unfold c_roomy at h
  split at h
  · cases h; exact roomy_ok _ _ (hp _ (List.mem_of_getElem? (i := 0) rfl))
  · cases h
theorem roomyB_ok (v : Value) (ks : List Int) (h0 : ks.length ≤ 1048576) : SemCall Tryd.prog 26 [.rd .u8 v ks] [] (AltK [⟨none, .on 0 (1 + ks.length + 400) false, [some ⟨5, [.ints .u8 (1 + ks.length + 400) (rP 254 190 ks 400)], 1, none⟩]⟩]) := by
  refine con_intro mixed (cx_Ma_ok (fun _ => none) (fun q s => bif Nat.beq q 4 then some ⟨Nat, fun k => ⟨[(3, .on 0 (1 + ks.length + k) false), (4, .int .i64 (k : Int))], [some ⟨5, [.ints .u8 (1 + ks.length + k) (rP 254 190 ks k)], 1, none⟩]⟩, fun k => k ≤ 400, fun k => 400 - k⟩ else none)) Tryd.func26 1000 ?_
  refine of_nf (p := (1 : Nat) = (1 : Nat) ∧ (1 : Nat) = (1 : Nat) ∧ (1 : Nat) + ks.length ≤ (68719476736 : Nat) ∧ ∃ (x : Nat), ((((1 : Nat) + ks.length = (1 : Nat) + ks.length + x ∧ false = false) ∧ (0 : Int) = ((x : Nat) : Int) ∧ True) ∧ (nat_lit 4 + (1 : Nat) = (5 : TypeId) ∧ nat_lit 0 + (1 : Nat) = (1 : Nat) ∧ @Bool.rec (fun _ => Prop) False ((254 : Int) :: ks = rP (254 : Int) (190 : Int) ks x) (true && ((1 : Nat) + ks.length).beq ((1 : Nat) + ks.length + x)) ∧ True) ∧ True) ∧ x.le (400 : Nat) ∧ ∀ (x : Nat), x.le (400 : Nat) → (decide (((x : Nat) : Int) < (400 : Int)) = true → (1 : Nat) + ks.length + x = (1 : Nat) + ks.length + x ∧ (rP (254 : Int) (190 : Int) ks x).length = (1 : Nat) + ks.length + x ∧ (1 : Nat) + ks.length + x + (1 : Nat) ≤ (68719476736 : Nat) ∧ ((-9223372036854775808 : Int) ≤ ((x : Nat) : Int) + (1 : Int) ∧ ((x : Nat) : Int) + (1 : Int) < (9223372036854775808 : Int)) ∧ ∃ (y : Nat), ((((1 : Nat) + ks.length + x + (1 : Nat) = (1 : Nat) + ks.length + y ∧ false = false) ∧ ((x : Nat) : Int) + (1 : Int) = ((y : Nat) : Int) ∧ True) ∧ (nat_lit 4 + (1 : Nat) = (5 : TypeId) ∧ nat_lit 0 + (1 : Nat) = (1 : Nat) ∧ @Bool.rec (fun _ => Prop) False ((rP (254 : Int) (190 : Int) ks x).append [(190 : Int)] = rP (254 : Int) (190 : Int) ks y) (true && ((1 : Nat) + ks.length + x + (1 : Nat)).beq ((1 : Nat) + ks.length + y)) ∧ True) ∧ True) ∧ y.le (400 : Nat) ∧ (400 : Nat) - y < (400 : Nat) - x) ∧ (decide (((x : Nat) : Int) < (400 : Int)) = false → (((1 : Nat) + ks.length + x = (1 : Nat) + ks.length + (400 : Nat) ∧ false = false) ∧ True) ∧ ((5 : TypeId) = (5 : TypeId) ∧ (1 : Nat) = (1 : Nat) ∧ @Bool.rec (fun _ => Prop) False (rP (254 : Int) (190 : Int) ks x = rP (254 : Int) (190 : Int) ks (400 : Nat)) (true && ((1 : Nat) + ks.length + x).beq ((1 : Nat) + ks.length + (400 : Nat))) ∧ True) ∧ True)) (by kernel_rfl) ?_
  have hl := fun k => rP_len 254 190 ks k
  have happ : ∀ a b : List Int, a.append b = a ++ b := fun _ _ => rfl
  simp only [↓forall_eq, happ, hl, List.cons_append, List.nil_append]
  repeat' (first | with_reducible rfl | exact True.intro | with_reducible assumption | apply And.intro | intro _)
  all_goals try omega
  refine ⟨0, ?_, Nat.zero_le _, fun x hx => ⟨fun h => ?_, fun h => ?_⟩⟩
  · repeat' (first | with_reducible rfl | exact True.intro | with_reducible assumption | apply And.intro | apply pieceEq | intro _)
    all_goals first | omega | rfl | exact rP_0 _ _ _ | trace_state
  · have hx : x ≤ 400 := hx
    have h := of_decide_eq_true h
    repeat' (first | with_reducible rfl | exact True.intro | with_reducible assumption | apply And.intro | apply pieceEq | intro _ | refine Exists.intro (x + 1) ?_)
    all_goals first | omega | rfl | exact rP_s _ _ _ _ | (show x + 1 ≤ 400; omega) | trace_state
  · have hx : x ≤ 400 := hx
    have h := of_decide_eq_false h
    obtain rfl : x = 400 := by omega
    repeat' (first | with_reducible rfl | exact True.intro | with_reducible assumption | apply And.intro | apply pieceEq | intro _)
    all_goals first | omega | rfl | trace_state
noncomputable def c_roomyB : ECon
  | [.rd .u8 v ks], [] => some ([ks.length ≤ 1048576], [⟨none, .on 0 (1 + ks.length + 400) false, [some ⟨5, [.ints .u8 (1 + ks.length + 400) (rP 254 190 ks 400)], 1, none⟩]⟩])
  | _, _ => none
theorem c_roomyB_e : EEntry Tryd.prog 26 c_roomyB := by
  refine ⟨callFunc_ok Tryd.func26 (by kernel_rfl) (by kernel_rfl), fun args rows ps alts h hp => ?_⟩
  unfold c_roomyB at h
  split at h
  · cases h; exact roomyB_ok _ _ (hp _ (List.mem_of_getElem? (i := 0) rfl))
  · cases h
theorem asW_ok (v : Value) (xs : List Int) (u : Value) (ys : List Int) (h0 : (xs.length : Int) ≤ 9000000000000000000) : PureSem Tryd.prog 27 [.rd .u32 v xs, .rd .u32 u ys] (.bool (xs == ys)) := by
  refine pure_intro mixed (cx_Ma_ok (fun _ => none) (fun q s => bif Nat.beq q 4 then some ⟨Nat, fun k => s.upd [] [(5, .int .i64 k)] [], fun k => k ≤ xs.length ∧ xs.take k = ys.take k, fun k => xs.length - k⟩ else none)) Tryd.func27 1000 rfl rfl ?_
  refine of_nf (p := ((((xs.length : Nat) : Int) != ((ys.length : Nat) : Int)) = true → false = (xs == ys)) ∧ ((((xs.length : Nat) : Int) != ((ys.length : Nat) : Int)) = false → ∃ (x : Nat), (((0 : Int) = ((x : Nat) : Int) ∧ SV.litb false = SV.litb false ∧ ((ys.length : Nat) : Int) = ((ys.length : Nat) : Int) ∧ (u = u ∧ ys = ys) ∧ ((xs.length : Nat) : Int) = ((xs.length : Nat) : Int) ∧ (v = v ∧ xs = xs) ∧ SV.litb false = SV.litb false ∧ (v = v ∧ xs = xs) ∧ (u = u ∧ ys = ys) ∧ True) ∧ True) ∧ (x ≤ xs.length ∧ List.take x xs = List.take x ys) ∧ ∀ (x : Nat), x ≤ xs.length ∧ List.take x xs = List.take x ys → (decide (((x : Nat) : Int) < ((xs.length : Nat) : Int)) = true → (0 : Int) ≤ ((x : Nat) : Int) ∧ ((x : Nat) : Int) < ((xs.length : Nat) : Int) ∧ (0 : Int) ≤ ((x : Nat) : Int) ∧ ((x : Nat) : Int) < ((ys.length : Nat) : Int) ∧ ((xs.getD (((x : Nat) : Int)).toNat (0 : Int) != ys.getD (((x : Nat) : Int)).toNat (0 : Int)) = true → false = (xs == ys)) ∧ ((xs.getD (((x : Nat) : Int)).toNat (0 : Int) != ys.getD (((x : Nat) : Int)).toNat (0 : Int)) = false → ((-9223372036854775808 : Int) ≤ ((x : Nat) : Int) + (1 : Int) ∧ ((x : Nat) : Int) + (1 : Int) < (9223372036854775808 : Int)) ∧ ∃ (y : Nat), ((((x : Nat) : Int) + (1 : Int) = ((y : Nat) : Int) ∧ SV.litb false = SV.litb false ∧ ((ys.length : Nat) : Int) = ((ys.length : Nat) : Int) ∧ (u = u ∧ ys = ys) ∧ ((xs.length : Nat) : Int) = ((xs.length : Nat) : Int) ∧ (v = v ∧ xs = xs) ∧ SV.litb false = SV.litb false ∧ (v = v ∧ xs = xs) ∧ (u = u ∧ ys = ys) ∧ True) ∧ True) ∧ (y ≤ xs.length ∧ List.take y xs = List.take y ys) ∧ xs.length - y < xs.length - x)) ∧ (decide (((x : Nat) : Int) < ((xs.length : Nat) : Int)) = false → true = (xs == ys)))) (by kernel_rfl) ?_
  refine ⟨fun hne => ?_, fun heq => ⟨0, ?_, ⟨Nat.zero_le _, rfl⟩, fun x hx => ⟨fun hlt => ?_, fun hge => ?_⟩⟩⟩
  · have : (xs == ys) = false := beq_false_of_ne (by rintro rfl; simp at hne)
    rw [this]
  · repeat' (first | with_reducible rfl | exact True.intro | apply And.intro | (intro _h; cases _h; done) | exact OwnSame.mk fun _ => rfl | exact OwnSameE.mk fun _ => rfl | intro _h | apply pieceEq)
    all_goals (first | exact True.intro | omega | rfl)
  · obtain ⟨hx, ht⟩ := hx
    have hl : xs.length = ys.length := by simp only [bne_eq_false_iff_eq] at heq; omega
    have hlt : x < xs.length := by have := of_decide_eq_true hlt; omega
    obtain ⟨k1, k2⟩ := same_step hl ht hlt
    simp only [Int.toNat_natCast]
    refine ⟨by omega, by omega, by omega, by omega, fun e => (k2 e).symm, fun e => ⟨?_, x + 1, ?_, ⟨?_, k1 e⟩, ?_⟩⟩
    all_goals (try omega)
    repeat' (first | with_reducible rfl | exact True.intro | apply And.intro | (intro _h; cases _h; done) | exact OwnSame.mk fun _ => rfl | exact OwnSameE.mk fun _ => rfl | intro _h | apply pieceEq)
    all_goals (first | exact True.intro | omega)
  · obtain ⟨hx, ht⟩ := hx
    have hl : xs.length = ys.length := by simp only [bne_eq_false_iff_eq] at heq; omega
    have hge : ¬ x < xs.length := by intro h; have := of_decide_eq_false hge; omega
    obtain rfl : x = xs.length := by omega
    rw [List.take_length, List.take_of_length_le (by omega)] at ht
    subst ht
    simp
noncomputable def c_asW : List SV → Option (List Prop × SV)
  | [.rd .u32 v xs, .rd .u32 u ys] => some ([(xs.length : Int) ≤ 9000000000000000000], .bool (xs == ys))
  | _ => none
theorem c_asW_e : PEntry Tryd.prog 27 c_asW := by
  refine ⟨callFunc_ok Tryd.func27 (by kernel_rfl) (by kernel_rfl), fun args ps v h hp => ?_⟩
  unfold c_asW at h
  split at h
  · cases h; exact asW_ok _ _ _ _ (hp _ (by simp))
  · cases h

end Go.Proofs.YtheeaplnobdpoaaDoor
