/- Words as bytes, padded keys, tags. No condition beyond lengths. -/
import Derived.Test.YtheeaplnobdpoaaDoorShaP
namespace Go.Proofs.YtheeaplnobdpoaaDoor
open Go.RowKit Sx
set_option linter.unusedVariables false
set_option linter.unusedSimpArgs false
set_option maxRecDepth 100000
set_option maxHeartbeats 4000000
theorem or4 {a b c d : Int} (ha : 0 ≤ a ∧ a < 256) (hb : 0 ≤ b ∧ b < 256) (hc : 0 ≤ c ∧ c < 256) (hd : 0 ≤ d ∧ d < 256) :
    bits .or .u32 (bits .or .u32 (bits .or .u32 (IntKind.u32.wrap (a * 16777216)) (IntKind.u32.wrap (b * 65536))) (IntKind.u32.wrap (c * 256))) (IntKind.u32.wrap (d * 1)) = (((0 * 256 + a) * 256 + b) * 256 + c) * 256 + d := by
  rw [w_u32 (x := a * 16777216) (by omega), w_u32 (x := b * 65536) (by omega), w_u32 (x := c * 256) (by omega), w_u32 (x := d * 1) (by omega)]
  have s1 := or_low (a := a) (b := b * 65536) 24 (by omega) ha.1 (by omega) (by omega) (by omega)
  have s2 := or_low (a := a * 256 + b) (b := c * 256) 16 (by omega) (by omega) (by omega) (by omega) (by omega)
  have s3 := or_low (a := (a * 256 + b) * 256 + c) (b := d * 1) 8 (by omega) (by omega) (by omega) (by omega) (by omega)
  have t1 : a * 16777216 = a * 2 ^ 24 := by omega
  have t2 : a * 2 ^ 24 + b * 65536 = (a * 256 + b) * 2 ^ 16 := by omega
  have t3 : (a * 256 + b) * 2 ^ 16 + c * 256 = ((a * 256 + b) * 256 + c) * 2 ^ 8 := by omega
  rw [t1, s1, t2, s2, t3, s3]
  omega
theorem bV_ex : ∃ f : List Int → List Int, ∀ ws, f ws = bO ws := ⟨_, fun _ => rfl⟩
noncomputable def bV : List Int → List Int := Classical.choose bV_ex
theorem bV_eq (ws : List Int) : bV ws = bO ws := Classical.choose_spec bV_ex ws
noncomputable def pt_Aa : List (Nat × (List SV → Option (List Prop × SV))) := []
theorem pt_Aa_ok : PureOK Tryd.prog (fun f => List.lookup f pt_Aa) := pure_list pt_Aa trivial
noncomputable abbrev cx_Aa (must : Nat → Option Bool := fun _ => none) (loop : Nat → SS → Option LoopSpec := fun _ _ => none) : Ctx := ⟨tab, inl tab (fun f => List.lookup f pt_Aa) fns (fun _ => {}) 1000 4, fun f => List.lookup f pt_Aa, must, loop, 0, 0, fun _ => none⟩
theorem cx_Aa_ok (must : Nat → Option Bool) (loop : Nat → SS → Option LoopSpec) : CxOK Tryd.prog (cx_Aa must loop) := inl_ok mixed tab_ok pt_Aa_ok fns_ok 4 _ _ _ _
theorem BytesW_ok (v : Value) (ws : List Int) (h0 : (ws.length : Int) ≤ 15000000000) : SemCall Tryd.prog 12 [.rd .u32 v ws] [] (AltK [⟨none, .on 0 (4 * ws.length) false, [some ⟨5, [.ints .u8 (4 * ws.length) (bV ws)], 1, none⟩]⟩]) := by
  refine con_intro mixed (cx_Aa_ok (fun _ => none) (fun q s => bif Nat.beq q 3 then some ⟨Nat, fun k => ⟨[(0, .rd .u32 v ws), (3, .on 0 (4 * k) false), (11, .int .i64 (ws.length : Int)), (12, .int .i64 (k : Int))], [some ⟨5, [.ints .u8 (4 * k) (bO (ws.take k))], 1, none⟩]⟩, fun k => k ≤ ws.length, fun k => ws.length - k⟩ else none)) Tryd.func12 1000 ?_
  refine of_nf (p := ((-9223372036854775808 : Int) ≤ (4 : Int) * ((ws.length : Nat) : Int) ∧ (4 : Int) * ((ws.length : Nat) : Int) < (9223372036854775808 : Int)) ∧ (0 : Int) ≤ (0 : Int) ∧ (0 : Int) ≤ (4 : Int) * ((ws.length : Nat) : Int) ∧ (4 : Int) * ((ws.length : Nat) : Int) ≤ (68719476736 : Int) ∧ ∃ (x : Nat), (((v = v ∧ ws = ws) ∧ ((0 : Nat) = (4 : Nat) * x ∧ false = false) ∧ ((ws.length : Nat) : Int) = ((ws.length : Nat) : Int) ∧ (0 : Int) = ((x : Nat) : Int) ∧ True) ∧ ((5 : Nat) = (5 : TypeId) ∧ (1 : Nat) = (1 : Nat) ∧ @Bool.rec (fun _ => Prop) False ([] = bO (List.take x ws)) (true && Nat.beq (0 : Nat) ((4 : Nat) * x)) ∧ True) ∧ True) ∧ x.le ws.length ∧ ∀ (x : Nat), x.le ws.length → (decide (((x : Nat) : Int) < ((ws.length : Nat) : Int)) = true → (0 : Int) ≤ ((x : Nat) : Int) ∧ ((x : Nat) : Int) < ((ws.length : Nat) : Int) ∧ (4 : Nat) * x = (4 : Nat) * x ∧ (bO (List.take x ws)).length = (4 : Nat) * x ∧ (4 : Nat) * x + (4 : Nat) ≤ (68719476736 : Nat) ∧ ((-9223372036854775808 : Int) ≤ ((x : Nat) : Int) + (1 : Int) ∧ ((x : Nat) : Int) + (1 : Int) < (9223372036854775808 : Int)) ∧ ∃ (y : Nat), (((v = v ∧ ws = ws) ∧ ((4 : Nat) * x + (4 : Nat) = (4 : Nat) * y ∧ false = false) ∧ ((ws.length : Nat) : Int) = ((ws.length : Nat) : Int) ∧ ((x : Nat) : Int) + (1 : Int) = ((y : Nat) : Int) ∧ True) ∧ (nat_lit 4 + (1 : Nat) = (5 : TypeId) ∧ nat_lit 0 + (1 : Nat) = (1 : Nat) ∧ @Bool.rec (fun _ => Prop) False ((bO (List.take x ws)).append [IntKind.u8.wrap (ws.getD (((x : Nat) : Int)).toNat (0 : Int) / (16777216 : Int)), IntKind.u8.wrap (ws.getD (((x : Nat) : Int)).toNat (0 : Int) / (65536 : Int)), IntKind.u8.wrap (ws.getD (((x : Nat) : Int)).toNat (0 : Int) / (256 : Int)), IntKind.u8.wrap (ws.getD (((x : Nat) : Int)).toNat (0 : Int) / (1 : Int))] = bO (List.take y ws)) (true && ((4 : Nat) * x + (4 : Nat)).beq ((4 : Nat) * y)) ∧ True) ∧ True) ∧ y.le ws.length ∧ ws.length - y < ws.length - x) ∧ (decide (((x : Nat) : Int) < ((ws.length : Nat) : Int)) = false → (((4 : Nat) * x = (4 : Nat) * ws.length ∧ false = false) ∧ True) ∧ ((5 : TypeId) = (5 : TypeId) ∧ (1 : Nat) = (1 : Nat) ∧ @Bool.rec (fun _ => Prop) False (bO (List.take x ws) = bV ws) (true && ((4 : Nat) * x).beq ((4 : Nat) * ws.length)) ∧ True) ∧ True)) (by kernel_rfl) ?_
  refine ⟨⟨by omega, by omega⟩, by omega, by omega, by omega, 0, ?_, Nat.zero_le _, fun x hx => ⟨fun h => ?_, fun h => ?_⟩⟩
  · repeat' (first | with_reducible rfl | exact True.intro | apply And.intro | (intro _h; cases _h; done) | exact OwnSame.mk fun _ => rfl | exact OwnSameE.mk fun _ => rfl | intro _h | apply pieceEq)
    all_goals first | rfl | exact True.intro
  · have h := of_decide_eq_true h
    have hx : x ≤ ws.length := hx
    have hlt : x < ws.length := by omega
    have hs := bO_take hlt
    have hl := bO_len (ws.take x)
    rw [List.length_take, Nat.min_eq_left hx] at hl
    simp only [Int.toNat_natCast, Int.ediv_one]
    repeat' (first | with_reducible rfl | exact True.intro | with_reducible assumption | apply And.intro | apply pieceEq | refine Exists.intro (x + 1) ?_)
    all_goals first | omega | exact hs.symm | (show x + 1 ≤ ws.length; omega)
  · have h := of_decide_eq_false h
    have hx : x ≤ ws.length := hx
    obtain rfl : x = ws.length := by omega
    repeat' (first | with_reducible rfl | exact True.intro | apply And.intro | (intro _h; cases _h; done) | exact OwnSame.mk fun _ => rfl | exact OwnSameE.mk fun _ => rfl | intro _h | apply pieceEq)
    all_goals first | omega | (rw [List.take_length]; exact (bV_eq _).symm) | exact True.intro
noncomputable def c_BytesW : ECon
  | [.rd .u32 v ws], [] => some ([(ws.length : Int) ≤ 15000000000], [⟨none, .on 0 (4 * ws.length) false, [some ⟨5, [.ints .u8 (4 * ws.length) (bV ws)], 1, none⟩]⟩])
  | _, _ => none
theorem c_BytesW_e : EEntry Tryd.prog 12 c_BytesW := by
  refine ⟨callFunc_ok Tryd.func12 (by kernel_rfl) (by kernel_rfl), fun args rows ps alts h hp => ?_⟩
  unfold c_BytesW at h
  split at h
  · cases h; exact BytesW_ok _ _ (hp _ (List.mem_of_getElem? (i := 0) rfl))
  · cases h
theorem WordsB_ok (v : Value) (bs : List Int) (h0 : bs.length ≤ 1048576) (h1 : bs.length % 4 = 0) (h2 : (∀ x ∈ bs, InK .u8 x)) : SemCall Tryd.prog 90 [.rd .u8 v bs] [] (AltK [⟨none, .tup [.on 0 (bs.length / 4) false, .int .i64 0], [some ⟨28, [.ints .u32 (bs.length / 4) (wB bs (bs.length / 4))], 1, none⟩]⟩]) := by
  refine con_intro mixed (cx_Aa_ok (fun _ => none) (fun q s => bif Nat.beq q 7 then some ⟨Nat, fun k => ⟨[(0, .rd .u8 v bs), (4, .on 0 (bs.length / 4) false), (19, .int .i64 ((bs.length / 4 : Nat) : Int)), (20, .int .i64 (k : Int))], [some ⟨28, [.ints .u32 (bs.length / 4) (wP bs (bs.length / 4) k)], 1, none⟩]⟩, fun k => k ≤ bs.length / 4, fun k => bs.length / 4 - k⟩ else none)) Tryd.func90 1000 ?_
  refine of_nf (p := letI k0_ := ((bs.length : Nat) : Int); letI k1_ := (((bs.length / (4 : Nat)) : Nat) : Int); (decide ((1048576 : Int) < k0_) = true → ((False ∧ (2 : Int) = (0 : Int) ∧ True) ∧ True) ∧ False) ∧ (decide ((1048576 : Int) < k0_) = false → (((k0_).tmod (4 : Int) != (0 : Int)) = true → ((False ∧ (11 : Int) = (0 : Int) ∧ True) ∧ True) ∧ False) ∧ (((k0_).tmod (4 : Int) != (0 : Int)) = false → ((-9223372036854775808 : Int) ≤ (k0_).tdiv (4 : Int) ∧ (k0_).tdiv (4 : Int) < (9223372036854775808 : Int)) ∧ (0 : Int) ≤ (k0_).tdiv (4 : Int) ∧ (k0_).tdiv (4 : Int) ≤ (k0_).tdiv (4 : Int) ∧ (k0_).tdiv (4 : Int) ≤ (68719476736 : Int) ∧ ∃ (x : Nat), (((v = v ∧ bs = bs) ∧ (((k0_).tdiv (4 : Int)).toNat = bs.length / (4 : Nat) ∧ false = false) ∧ ((((k0_).tdiv (4 : Int)).toNat : Nat) : Int) = k1_ ∧ (0 : Int) = ((x : Nat) : Int) ∧ True) ∧ (nat_lit 27 + (1 : Nat) = (28 : TypeId) ∧ nat_lit 0 + (1 : Nat) = (1 : Nat) ∧ @Bool.rec (fun _ => Prop) False (List.replicate ((k0_).tdiv (4 : Int)).toNat (0 : Int) = wP bs (bs.length / (4 : Nat)) x) (true && ((k0_).tdiv (4 : Int)).toNat.beq (bs.length / (4 : Nat))) ∧ True) ∧ True) ∧ x.le (bs.length / (4 : Nat)) ∧ ∀ (x : Nat), x.le (bs.length / (4 : Nat)) → (decide (((x : Nat) : Int) < k1_) = true → ((-9223372036854775808 : Int) ≤ (4 : Int) * ((x : Nat) : Int) ∧ (4 : Int) * ((x : Nat) : Int) < (9223372036854775808 : Int)) ∧ (0 : Int) ≤ (4 : Int) * ((x : Nat) : Int) ∧ (4 : Int) * ((x : Nat) : Int) ≤ k0_ ∧ k0_ ≤ k0_ ∧ (0 : Int) ≤ (0 : Int) ∧ (0 : Int) < (((List.take (k0_ - (4 : Int) * ((x : Nat) : Int)).toNat (List.drop ((4 : Int) * ((x : Nat) : Int)).toNat bs)).length : Nat) : Int) ∧ ((0 : Int) ≤ (List.take (k0_ - (4 : Int) * ((x : Nat) : Int)).toNat (List.drop ((4 : Int) * ((x : Nat) : Int)).toNat bs)).getD (0 : Nat) (0 : Int) ∧ (List.take (k0_ - (4 : Int) * ((x : Nat) : Int)).toNat (List.drop ((4 : Int) * ((x : Nat) : Int)).toNat bs)).getD (0 : Nat) (0 : Int) < (256 : Int)) ∧ (0 : Int) ≤ (1 : Int) ∧ (1 : Int) < (((List.take (k0_ - (4 : Int) * ((x : Nat) : Int)).toNat (List.drop ((4 : Int) * ((x : Nat) : Int)).toNat bs)).length : Nat) : Int) ∧ ((0 : Int) ≤ (List.take (k0_ - (4 : Int) * ((x : Nat) : Int)).toNat (List.drop ((4 : Int) * ((x : Nat) : Int)).toNat bs)).getD (1 : Nat) (0 : Int) ∧ (List.take (k0_ - (4 : Int) * ((x : Nat) : Int)).toNat (List.drop ((4 : Int) * ((x : Nat) : Int)).toNat bs)).getD (1 : Nat) (0 : Int) < (256 : Int)) ∧ (0 : Int) ≤ (2 : Int) ∧ (2 : Int) < (((List.take (k0_ - (4 : Int) * ((x : Nat) : Int)).toNat (List.drop ((4 : Int) * ((x : Nat) : Int)).toNat bs)).length : Nat) : Int) ∧ ((0 : Int) ≤ (List.take (k0_ - (4 : Int) * ((x : Nat) : Int)).toNat (List.drop ((4 : Int) * ((x : Nat) : Int)).toNat bs)).getD (2 : Nat) (0 : Int) ∧ (List.take (k0_ - (4 : Int) * ((x : Nat) : Int)).toNat (List.drop ((4 : Int) * ((x : Nat) : Int)).toNat bs)).getD (2 : Nat) (0 : Int) < (256 : Int)) ∧ (0 : Int) ≤ (3 : Int) ∧ (3 : Int) < (((List.take (k0_ - (4 : Int) * ((x : Nat) : Int)).toNat (List.drop ((4 : Int) * ((x : Nat) : Int)).toNat bs)).length : Nat) : Int) ∧ ((0 : Int) ≤ (List.take (k0_ - (4 : Int) * ((x : Nat) : Int)).toNat (List.drop ((4 : Int) * ((x : Nat) : Int)).toNat bs)).getD (3 : Nat) (0 : Int) ∧ (List.take (k0_ - (4 : Int) * ((x : Nat) : Int)).toNat (List.drop ((4 : Int) * ((x : Nat) : Int)).toNat bs)).getD (3 : Nat) (0 : Int) < (256 : Int)) ∧ (0 : Int) ≤ ((x : Nat) : Int) ∧ ((x : Nat) : Int) < k1_ ∧ (((x : Nat) : Int)).toNat < bs.length / (4 : Nat) + (0 : Nat) ∧ (0 : Int) ≤ ((x : Nat) : Int) ∧ ((x : Nat) : Int) < k1_ ∧ (wP bs (bs.length / (4 : Nat)) x).length = bs.length / (4 : Nat) ∧ ((-9223372036854775808 : Int) ≤ ((x : Nat) : Int) + (1 : Int) ∧ ((x : Nat) : Int) + (1 : Int) < (9223372036854775808 : Int)) ∧ ∃ (y : Nat), (((v = v ∧ bs = bs) ∧ (bs.length / (4 : Nat) = bs.length / (4 : Nat) ∧ false = false) ∧ k1_ = k1_ ∧ ((x : Nat) : Int) + (1 : Int) = ((y : Nat) : Int) ∧ True) ∧ (nat_lit 27 + (1 : Nat) = (28 : TypeId) ∧ nat_lit 0 + (1 : Nat) = (1 : Nat) ∧ @Bool.rec (fun _ => Prop) False ((wP bs (bs.length / (4 : Nat)) x).set (((x : Nat) : Int)).toNat (bits BinOp.or IntKind.u32 (bits BinOp.or IntKind.u32 (bits BinOp.or IntKind.u32 (IntKind.u32.wrap ((List.take (k0_ - (4 : Int) * ((x : Nat) : Int)).toNat (List.drop ((4 : Int) * ((x : Nat) : Int)).toNat bs)).getD (0 : Nat) (0 : Int) * (16777216 : Int))) (IntKind.u32.wrap ((List.take (k0_ - (4 : Int) * ((x : Nat) : Int)).toNat (List.drop ((4 : Int) * ((x : Nat) : Int)).toNat bs)).getD (1 : Nat) (0 : Int) * (65536 : Int)))) (IntKind.u32.wrap ((List.take (k0_ - (4 : Int) * ((x : Nat) : Int)).toNat (List.drop ((4 : Int) * ((x : Nat) : Int)).toNat bs)).getD (2 : Nat) (0 : Int) * (256 : Int)))) (IntKind.u32.wrap ((List.take (k0_ - (4 : Int) * ((x : Nat) : Int)).toNat (List.drop ((4 : Int) * ((x : Nat) : Int)).toNat bs)).getD (3 : Nat) (0 : Int) * (1 : Int)))) = wP bs (bs.length / (4 : Nat)) y) (true && (bs.length / (4 : Nat)).beq (bs.length / (4 : Nat))) ∧ True) ∧ True) ∧ y.le (bs.length / (4 : Nat)) ∧ bs.length / (4 : Nat) - y < bs.length / (4 : Nat) - x) ∧ (decide (((x : Nat) : Int) < k1_) = false → (((bs.length / (4 : Nat) = bs.length / (4 : Nat) ∧ false = false) ∧ (0 : Int) = (0 : Int) ∧ True) ∧ True) ∧ ((28 : TypeId) = (28 : TypeId) ∧ (1 : Nat) = (1 : Nat) ∧ @Bool.rec (fun _ => Prop) False (wP bs (bs.length / (4 : Nat)) x = wB bs (bs.length / (4 : Nat))) (true && (bs.length / (4 : Nat)).beq (bs.length / (4 : Nat))) ∧ True) ∧ True)))) (by kernel_rfl) ?_
  have e0 : (bs.length : Int).tmod 4 = 0 := by rw [Int.tmod_eq_emod_of_nonneg (by omega)]; omega
  have e1 : (bs.length : Int).tdiv 4 = ((bs.length / 4 : Nat) : Int) := by rw [Int.tdiv_eq_ediv_of_nonneg (by omega)]; omega
  have hd : ¬ (1048576 : Int) < (bs.length : Int) := by omega
  have gd : ∀ x j : Nat, x < bs.length / 4 → j < 4 → (List.take (bs.length - 4 * x) (List.drop (4 * x) bs)).getD j 0 = bs.getD (4 * x + j) 0 := fun x j hx hj => by
    rw [List.getD_eq_getElem?_getD, List.getElem?_take_of_lt (by omega), List.getElem?_drop, ← List.getD_eq_getElem?_getD]
  have hu := fun i => getD_u8 (l := bs) h2 i
  simp only [e0, e1, hd, decide_false, Bool.false_eq_true, false_implies, true_implies, bne_self_eq_false, true_and, Int.toNat_natCast]
  refine ⟨⟨by omega, by omega⟩, by omega, by omega, by omega, 0, ?_, Nat.zero_le _, fun x hx => ⟨fun h => ?_, fun h => ?_⟩⟩
  · repeat' (first | with_reducible rfl | exact True.intro | apply And.intro | (intro _h; cases _h; done) | exact OwnSame.mk fun _ => rfl | exact OwnSameE.mk fun _ => rfl | intro _h | apply pieceEq)
    all_goals first | rfl | exact True.intro | (simp [wP, wB]; done)
  · have h := of_decide_eq_true h
    have hx : x ≤ bs.length / 4 := hx
    have hlt : x < bs.length / 4 := by omega
    have e2 : ((bs.length : Int) - 4 * (x : Int)).toNat = bs.length - 4 * x := by omega
    have e3 : (4 * (x : Int)).toNat = 4 * x := by omega
    have hl : (List.take (bs.length - 4 * x) (List.drop (4 * x) bs)).length = bs.length - 4 * x := by rw [List.length_take, List.length_drop]; omega
    have u0 := hu (4 * x + 0); have u1 := hu (4 * x + 1); have u2 := hu (4 * x + 2); have u3 := hu (4 * x + 3)
    simp only [e2, e3, hl, gd x _ hlt (by omega : (0:Nat) < 4), gd x _ hlt (by omega : (1:Nat) < 4), gd x _ hlt (by omega : (2:Nat) < 4), gd x _ hlt (by omega : (3:Nat) < 4)]
    have ho := or4 u0 u1 u2 u3
    rw [ho]
    have hp : (((0 * 256 + bs.getD (4 * x + 0) 0) * 256 + bs.getD (4 * x + 1) 0) * 256 + bs.getD (4 * x + 2) 0) * 256 + bs.getD (4 * x + 3) 0 = pB bs x 4 := rfl
    rw [hp, wP_next hlt]
    have hl2 := wP_len (bs := bs) (k := x) (q := bs.length / 4) (by omega)
    repeat' (first | with_reducible rfl | exact True.intro | with_reducible assumption | apply And.intro | apply pieceEq | refine Exists.intro (x + 1) ?_)
    all_goals first | omega | (show x + 1 ≤ bs.length / 4; omega)
  · have h := of_decide_eq_false h
    have hx : x ≤ bs.length / 4 := hx
    obtain rfl : x = bs.length / 4 := by omega
    repeat' (first | with_reducible rfl | exact True.intro | apply And.intro | (intro _h; cases _h; done) | exact OwnSame.mk fun _ => rfl | exact OwnSameE.mk fun _ => rfl | intro _h | apply pieceEq)
    all_goals first | omega | exact wP_all | exact True.intro
noncomputable def c_WordsB : ECon
  | [.rd .u8 v bs], [] => some ([bs.length ≤ 1048576, bs.length % 4 = 0, (∀ x ∈ bs, InK .u8 x)], [⟨none, .tup [.on 0 (bs.length / 4) false, .int .i64 0], [some ⟨28, [.ints .u32 (bs.length / 4) (wB bs (bs.length / 4))], 1, none⟩]⟩])
  | _, _ => none
theorem c_WordsB_e : EEntry Tryd.prog 90 c_WordsB := by
  refine ⟨callFunc_ok Tryd.func90 (by kernel_rfl) (by kernel_rfl), fun args rows ps alts h hp => ?_⟩
  unfold c_WordsB at h
  split at h
  · cases h; exact WordsB_ok _ _ (hp _ (List.mem_of_getElem? (i := 0) rfl)) (hp _ (List.mem_of_getElem? (i := 1) rfl)) (hp _ (List.mem_of_getElem? (i := 2) rfl))
  · cases h
/-- The sum of bytes. -/
def s8 (ks : List Int) : List Int := [(sumW (wB ks (ks.length / 4)) (lastB ks) (8 * ks.length)).getD 0 0, (sumW (wB ks (ks.length / 4)) (lastB ks) (8 * ks.length)).getD 1 0, (sumW (wB ks (ks.length / 4)) (lastB ks) (8 * ks.length)).getD 2 0, (sumW (wB ks (ks.length / 4)) (lastB ks) (8 * ks.length)).getD 3 0, (sumW (wB ks (ks.length / 4)) (lastB ks) (8 * ks.length)).getD 4 0, (sumW (wB ks (ks.length / 4)) (lastB ks) (8 * ks.length)).getD 5 0, (sumW (wB ks (ks.length / 4)) (lastB ks) (8 * ks.length)).getD 6 0, (sumW (wB ks (ks.length / 4)) (lastB ks) (8 * ks.length)).getD 7 0]
/-- A key as it is taken: a long one's sum. -/
noncomputable def keyS (ks : List Int) : List Int := if 64 < ks.length then bV (s8 ks) else ks
def zK (ks : List Int) : List Int := ks ++ List.replicate (64 - ks.length) 0
/-- The padded key, so many of its bytes turned. -/
def xP (ks : List Int) (pad : Int) (k : Nat) : List Int := ((zK ks).take k).map (fun x => bits .xor .u8 x pad) ++ (zK ks).drop k
noncomputable def padS (ks : List Int) (pad : Int) : List Int := (zK (keyS ks)).map fun x => bits .xor .u8 x pad
theorem zK_len {ks : List Int} (h : ks.length ≤ 64) : (zK ks).length = 64 := by simp [zK]; omega
theorem xP_len {ks : List Int} (h : ks.length ≤ 64) (pad : Int) {k : Nat} (hk : k ≤ 64) : (xP ks pad k).length = 64 := by
  have := zK_len h
  simp [xP]; omega
theorem xP_0 (ks : List Int) (pad : Int) : xP ks pad 0 = zK ks := by simp [xP]
theorem xP_all {ks : List Int} (h : ks.length ≤ 64) (pad : Int) : xP ks pad 64 = (zK ks).map fun x => bits .xor .u8 x pad := by
  have := zK_len h
  unfold xP
  rw [List.take_of_length_le (by omega), List.drop_eq_nil_of_le (by omega), List.append_nil]
theorem xP_get {ks : List Int} (h : ks.length ≤ 64) (pad : Int) {k : Nat} (hk : k < 64) : (xP ks pad k).getD k 0 = (zK ks).getD k 0 := by
  have hl := zK_len h
  unfold xP
  rw [List.getD_eq_getElem?_getD, List.getElem?_append_right (by simp; omega)]
  simp only [List.length_map, List.length_take]
  rw [List.getElem?_drop, ← List.getD_eq_getElem?_getD]
  congr 1
  omega
theorem xP_set {ks : List Int} (h : ks.length ≤ 64) (pad : Int) {k : Nat} (hk : k < 64) : (xP ks pad k).set k (bits .xor .u8 ((zK ks).getD k 0) pad) = xP ks pad (k + 1) := by
  have hl := zK_len h
  unfold xP
  have hk2 : k < (zK ks).length := by omega
  rw [List.set_append_right _ _ (by simp; omega)]
  simp only [List.length_map, List.length_take]
  rw [show k - min k (zK ks).length = 0 by omega, List.drop_eq_getElem_cons hk2, List.set_cons_zero, List.take_add_one, List.getElem?_eq_getElem hk2, List.getD_eq_getElem?_getD, List.getElem?_eq_getElem hk2]
  rw [List.map_append]
  simp
theorem keyS_in {ks : List Int} (h : ∀ x ∈ ks, InK .u8 x) : ∀ x ∈ keyS ks, InK .u8 x := by
  unfold keyS; split
  · rw [bV_eq]; exact bO_in _
  · exact h
theorem keyS_len (ks : List Int) : (keyS ks).length ≤ 64 := by
  unfold keyS; split
  · rw [bV_eq, bO_len]; simp [s8]
  · omega
noncomputable def pt_Ab : List (Nat × (List SV → Option (List Prop × SV))) := [(60, c_SumBytes)]
theorem pt_Ab_ok : PureOK Tryd.prog (fun f => List.lookup f pt_Ab) := pure_list pt_Ab ⟨c_SumBytes_e, trivial⟩
noncomputable def et_Ab : List (Nat × ECon) := [(12, c_BytesW)]
theorem et_Ab_ok : ConOK Tryd.prog (fun f => List.lookup f et_Ab) := con_list et_Ab ⟨c_BytesW_e, trivial⟩
noncomputable abbrev cx_Ab (must : Nat → Option Bool := fun _ => none) (loop : Nat → SS → Option LoopSpec := fun _ _ => none) : Ctx := ⟨tab, inlC tab (fun f => List.lookup f pt_Ab) (fun f => List.lookup f et_Ab) fns (fun _ => {}) 1000 4, fun f => List.lookup f pt_Ab, must, loop, 0, 0, fun f => List.lookup f et_Ab⟩
theorem cx_Ab_ok (must : Nat → Option Bool) (loop : Nat → SS → Option LoopSpec) : CxOK Tryd.prog (cx_Ab must loop) := inlC_ok mixed tab_ok pt_Ab_ok et_Ab_ok fns_ok 4 _ _ _ _
theorem paddedS_ok (v : Value) (ks : List Int) (pad : Int) (h0 : ks.length ≤ 64) (h1 : (∀ x ∈ ks, InK .u8 x)) : SemCall Tryd.prog 61 [.rd .u8 v ks, .int .u8 pad] [] (AltK [⟨none, .on 0 64 false, [some ⟨5, [.ints .u8 64 (padS ks pad)], 1, none⟩]⟩]) := by
  refine con_intro mixed (cx_Ab_ok (ml [] [10]) (fun q s => bif Nat.beq q 7 then some ⟨Nat, fun k => ⟨[(1, .int .u8 pad), (6, .on 0 64 false), (20, .int .i64 64), (21, .int .i64 (k : Int))], [some ⟨5, [.ints .u8 64 (xP ks pad k)], 1, none⟩]⟩, fun k => k ≤ 64, fun k => 64 - k⟩ else none)) Tryd.func61 1000 ?_
  refine of_nf (p := decide ((64 : Int) < ((ks.length : Nat) : Int)) = false ∧ (0 : Int) ≤ (64 : Int) ∧ (64 : Int) ≤ (64 : Int) ∧ (64 : Int) ≤ (68719476736 : Int) ∧ (List.take (64 : Nat) ks).length ≤ (64 : Nat) ∧ (64 : Nat) = (64 : Nat) ∧ (0 : Nat) + (List.take (64 : Nat) ks).length ≤ (64 : Nat) ∧ ∃ (x : Nat), ((pad = pad ∧ ((64 : Nat) = (64 : Nat) ∧ false = false) ∧ (64 : Int) = (64 : Int) ∧ (0 : Int) = ((x : Nat) : Int) ∧ True) ∧ (nat_lit 4 + (1 : Nat) = (5 : TypeId) ∧ nat_lit 0 + (1 : Nat) = (1 : Nat) ∧ (List.take (64 : Nat) ks).append (List.drop ((0 : Nat) + (List.take (64 : Nat) ks).length) [(0 : Int), (0 : Int), (0 : Int), (0 : Int), (0 : Int), (0 : Int), (0 : Int), (0 : Int), (0 : Int), (0 : Int), (0 : Int), (0 : Int), (0 : Int), (0 : Int), (0 : Int), (0 : Int), (0 : Int), (0 : Int), (0 : Int), (0 : Int), (0 : Int), (0 : Int), (0 : Int), (0 : Int), (0 : Int), (0 : Int), (0 : Int), (0 : Int), (0 : Int), (0 : Int), (0 : Int), (0 : Int), (0 : Int), (0 : Int), (0 : Int), (0 : Int), (0 : Int), (0 : Int), (0 : Int), (0 : Int), (0 : Int), (0 : Int), (0 : Int), (0 : Int), (0 : Int), (0 : Int), (0 : Int), (0 : Int), (0 : Int), (0 : Int), (0 : Int), (0 : Int), (0 : Int), (0 : Int), (0 : Int), (0 : Int), (0 : Int), (0 : Int), (0 : Int), (0 : Int), (0 : Int), (0 : Int), (0 : Int), (0 : Int)]) = xP ks pad x ∧ True) ∧ True) ∧ x.le (64 : Nat) ∧ ∀ (x : Nat), x.le (64 : Nat) → (decide (((x : Nat) : Int) < (64 : Int)) = true → (0 : Int) ≤ ((x : Nat) : Int) ∧ ((x : Nat) : Int) < (64 : Int) ∧ (((x : Nat) : Int)).toNat < (64 : Nat) + (0 : Nat) ∧ (0 : Int) ≤ ((x : Nat) : Int) ∧ ((x : Nat) : Int) < (((64 : Nat) : Nat) : Int) ∧ (0 : Int) ≤ ((x : Nat) : Int) ∧ ((x : Nat) : Int) < (64 : Int) ∧ (((x : Nat) : Int)).toNat < (64 : Nat) + (0 : Nat) ∧ (0 : Int) ≤ ((x : Nat) : Int) ∧ ((x : Nat) : Int) < (((64 : Nat) : Nat) : Int) ∧ (xP ks pad x).length = (64 : Nat) ∧ ((-9223372036854775808 : Int) ≤ ((x : Nat) : Int) + (1 : Int) ∧ ((x : Nat) : Int) + (1 : Int) < (9223372036854775808 : Int)) ∧ ∃ (y : Nat), ((pad = pad ∧ ((64 : Nat) = (64 : Nat) ∧ false = false) ∧ (64 : Int) = (64 : Int) ∧ ((x : Nat) : Int) + (1 : Int) = ((y : Nat) : Int) ∧ True) ∧ (nat_lit 4 + (1 : Nat) = (5 : TypeId) ∧ nat_lit 0 + (1 : Nat) = (1 : Nat) ∧ (xP ks pad x).set (((x : Nat) : Int)).toNat (bits BinOp.xor IntKind.u8 ((xP ks pad x).getD (((x : Nat) : Int)).toNat (0 : Int)) pad) = xP ks pad y ∧ True) ∧ True) ∧ y.le (64 : Nat) ∧ (64 : Nat) - y < (64 : Nat) - x) ∧ (decide (((x : Nat) : Int) < (64 : Int)) = false → (((64 : Nat) = (64 : Nat) ∧ false = false) ∧ True) ∧ ((5 : TypeId) = (5 : TypeId) ∧ (1 : Nat) = (1 : Nat) ∧ xP ks pad x = padS ks pad ∧ True) ∧ True)) (by kernel_rfl) ?_
  have hz : ∀ K : List Int, K.length ≤ 64 → List.take 64 K ++ List.drop (0 + (List.take 64 K).length) (List.replicate 64 (0 : Int)) = zK K := fun K hK => by
    rw [List.take_of_length_le hK, List.drop_replicate]
    unfold zK
    congr 2
    omega
  have hks : keyS ks = ks := by unfold keyS; rw [if_neg (by omega)]
  refine ⟨decide_eq_false (by omega), by omega, by omega, by omega, by rw [List.length_take]; omega, rfl, by rw [List.length_take]; omega, 0, ?_, Nat.zero_le _, fun x hx => ⟨fun h => ?_, fun h => ?_⟩⟩
  · repeat' (first | with_reducible rfl | exact True.intro | apply And.intro)
    all_goals first | rfl | exact (hz ks h0).trans (xP_0 ks pad).symm
  · have h := of_decide_eq_true h
    have hlt : x < 64 := by omega
    have hxl := xP_len (ks := ks) h0 pad (k := x) (by omega)
    simp only [Int.toNat_natCast, xP_get (ks := ks) h0 pad hlt, xP_set (ks := ks) h0 pad hlt]
    repeat' (first | with_reducible rfl | exact True.intro | with_reducible assumption | apply And.intro | refine Exists.intro (x + 1) ?_)
    all_goals first | omega | (show x + 1 ≤ 64; omega)
  · have h := of_decide_eq_false h
    have hx : x ≤ 64 := hx
    obtain rfl : x = 64 := by omega
    repeat' (first | with_reducible rfl | exact True.intro | apply And.intro)
    all_goals first | rfl | (rw [xP_all (ks := ks) h0]; unfold padS; rw [hks])
noncomputable def c_paddedS : ECon
  | [.rd .u8 v ks, .int .u8 pad], [] => some ([ks.length ≤ 64, (∀ x ∈ ks, InK .u8 x)], [⟨none, .on 0 64 false, [some ⟨5, [.ints .u8 64 (padS ks pad)], 1, none⟩]⟩])
  | _, _ => none
theorem c_paddedS_e : EEntry Tryd.prog 61 c_paddedS := by
  refine ⟨callFunc_ok Tryd.func61 (by kernel_rfl) (by kernel_rfl), fun args rows ps alts h hp => ?_⟩
  unfold c_paddedS at h
  split at h
  · cases h; exact paddedS_ok _ _ _ (hp _ (List.mem_of_getElem? (i := 0) rfl)) (hp _ (List.mem_of_getElem? (i := 1) rfl))
  · cases h
theorem paddedL_ok (v : Value) (ks : List Int) (pad : Int) (h0 : 64 < ks.length) (h1 : (ks.length : Int) ≤ 60000000000) (h2 : (∀ x ∈ ks, InK .u8 x)) : SemCall Tryd.prog 61 [.rd .u8 v ks, .int .u8 pad] [] (AltK [⟨none, .on 0 64 false, [some ⟨5, [.ints .u8 64 (padS ks pad)], 1, none⟩]⟩]) := by
  refine con_intro mixed (cx_Ab_ok (ml [10] []) (fun q s => bif Nat.beq q 7 then some ⟨Nat, fun k => ⟨[(1, .int .u8 pad), (6, .on 0 64 false), (20, .int .i64 64), (21, .int .i64 (k : Int))], [some ⟨5, [.ints .u8 64 (xP (keyS ks) pad k)], 1, none⟩]⟩, fun k => k ≤ 64, fun k => 64 - k⟩ else none)) Tryd.func61 1000 ?_
  refine of_nf (p := letI k1_ := (sumW (wB ks (ks.length / (4 : Nat))) (lastB ks) ((8 : Int) * ((ks.length : Nat) : Int))); letI k0_ := (bV [k1_.getD (0 : Nat) (0 : Int), k1_.getD (1 : Nat) (0 : Int), k1_.getD (2 : Nat) (0 : Int), k1_.getD (3 : Nat) (0 : Int), k1_.getD (4 : Nat) (0 : Int), k1_.getD (5 : Nat) (0 : Int), k1_.getD (6 : Nat) (0 : Int), k1_.getD (7 : Nat) (0 : Int)]); decide ((64 : Int) < ((ks.length : Nat) : Int)) = true ∧ ((ks.length : Nat) : Int) ≤ (60000000000 : Int) ∧ (∀ (x : Int), x ∈ ks → (0 : Int) ≤ x ∧ x < (256 : Int)) ∧ ∀ (v : Nat → Value), (8 : Nat) ≤ (8 : Nat) ∧ (((8 : Nat) : Nat) : Int) ≤ (15000000000 : Int) ∧ (0 : Int) ≤ (64 : Int) ∧ (64 : Int) ≤ (64 : Int) ∧ (64 : Int) ≤ (68719476736 : Int) ∧ (4 : Nat) * (8 : Nat) = (32 : Nat) ∧ k0_.length = (32 : Nat) ∧ (List.take (64 : Nat) k0_).length ≤ (64 : Nat) ∧ (64 : Nat) = (64 : Nat) ∧ (0 : Nat) + (List.take (64 : Nat) k0_).length ≤ (64 : Nat) ∧ ∃ (x : Nat), ((pad = pad ∧ ((64 : Nat) = (64 : Nat) ∧ false = false) ∧ (64 : Int) = (64 : Int) ∧ (0 : Int) = ((x : Nat) : Int) ∧ True) ∧ (nat_lit 4 + (1 : Nat) = (5 : TypeId) ∧ nat_lit 0 + (1 : Nat) = (1 : Nat) ∧ (List.take (64 : Nat) k0_).append (List.drop ((0 : Nat) + (List.take (64 : Nat) k0_).length) [(0 : Int), (0 : Int), (0 : Int), (0 : Int), (0 : Int), (0 : Int), (0 : Int), (0 : Int), (0 : Int), (0 : Int), (0 : Int), (0 : Int), (0 : Int), (0 : Int), (0 : Int), (0 : Int), (0 : Int), (0 : Int), (0 : Int), (0 : Int), (0 : Int), (0 : Int), (0 : Int), (0 : Int), (0 : Int), (0 : Int), (0 : Int), (0 : Int), (0 : Int), (0 : Int), (0 : Int), (0 : Int), (0 : Int), (0 : Int), (0 : Int), (0 : Int), (0 : Int), (0 : Int), (0 : Int), (0 : Int), (0 : Int), (0 : Int), (0 : Int), (0 : Int), (0 : Int), (0 : Int), (0 : Int), (0 : Int), (0 : Int), (0 : Int), (0 : Int), (0 : Int), (0 : Int), (0 : Int), (0 : Int), (0 : Int), (0 : Int), (0 : Int), (0 : Int), (0 : Int), (0 : Int), (0 : Int), (0 : Int), (0 : Int)]) = xP (keyS ks) pad x ∧ True) ∧ True) ∧ x.le (64 : Nat) ∧ ∀ (x : Nat), x.le (64 : Nat) → (decide (((x : Nat) : Int) < (64 : Int)) = true → (0 : Int) ≤ ((x : Nat) : Int) ∧ ((x : Nat) : Int) < (64 : Int) ∧ (((x : Nat) : Int)).toNat < (64 : Nat) + (0 : Nat) ∧ (0 : Int) ≤ ((x : Nat) : Int) ∧ ((x : Nat) : Int) < (((64 : Nat) : Nat) : Int) ∧ (0 : Int) ≤ ((x : Nat) : Int) ∧ ((x : Nat) : Int) < (64 : Int) ∧ (((x : Nat) : Int)).toNat < (64 : Nat) + (0 : Nat) ∧ (0 : Int) ≤ ((x : Nat) : Int) ∧ ((x : Nat) : Int) < (((64 : Nat) : Nat) : Int) ∧ (xP (keyS ks) pad x).length = (64 : Nat) ∧ ((-9223372036854775808 : Int) ≤ ((x : Nat) : Int) + (1 : Int) ∧ ((x : Nat) : Int) + (1 : Int) < (9223372036854775808 : Int)) ∧ ∃ (y : Nat), ((pad = pad ∧ ((64 : Nat) = (64 : Nat) ∧ false = false) ∧ (64 : Int) = (64 : Int) ∧ ((x : Nat) : Int) + (1 : Int) = ((y : Nat) : Int) ∧ True) ∧ (nat_lit 4 + (1 : Nat) = (5 : TypeId) ∧ nat_lit 0 + (1 : Nat) = (1 : Nat) ∧ (xP (keyS ks) pad x).set (((x : Nat) : Int)).toNat (bits BinOp.xor IntKind.u8 ((xP (keyS ks) pad x).getD (((x : Nat) : Int)).toNat (0 : Int)) pad) = xP (keyS ks) pad y ∧ True) ∧ True) ∧ y.le (64 : Nat) ∧ (64 : Nat) - y < (64 : Nat) - x) ∧ (decide (((x : Nat) : Int) < (64 : Int)) = false → (((64 : Nat) = (64 : Nat) ∧ false = false) ∧ True) ∧ ((5 : TypeId) = (5 : TypeId) ∧ (1 : Nat) = (1 : Nat) ∧ xP (keyS ks) pad x = padS ks pad ∧ True) ∧ True)) (by kernel_rfl) ?_
  have hz : ∀ K : List Int, K.length ≤ 64 → List.take 64 K ++ List.drop (0 + (List.take 64 K).length) (List.replicate 64 (0 : Int)) = zK K := fun K hK => by
    rw [List.take_of_length_le hK, List.drop_replicate]
    unfold zK
    congr 2
    omega
  have hks : keyS ks = bV [(sumW (wB ks (ks.length / 4)) (lastB ks) (8 * ks.length)).getD 0 0, (sumW (wB ks (ks.length / 4)) (lastB ks) (8 * ks.length)).getD 1 0, (sumW (wB ks (ks.length / 4)) (lastB ks) (8 * ks.length)).getD 2 0, (sumW (wB ks (ks.length / 4)) (lastB ks) (8 * ks.length)).getD 3 0, (sumW (wB ks (ks.length / 4)) (lastB ks) (8 * ks.length)).getD 4 0, (sumW (wB ks (ks.length / 4)) (lastB ks) (8 * ks.length)).getD 5 0, (sumW (wB ks (ks.length / 4)) (lastB ks) (8 * ks.length)).getD 6 0, (sumW (wB ks (ks.length / 4)) (lastB ks) (8 * ks.length)).getD 7 0] := by unfold keyS; rw [if_pos h0]; rfl
  rw [← hks]
  have hkl := keyS_len ks
  have hk32 : (keyS ks).length = 32 := by rw [hks, bV_eq, bO_len]; rfl
  refine ⟨decide_eq_true (by omega), h1, h2, fun _ => ⟨by omega, by omega, by omega, by omega, by omega, by omega, hk32, by rw [List.length_take]; omega, rfl, by rw [List.length_take]; omega, 0, ?_, Nat.zero_le _, fun x hx => ⟨fun h => ?_, fun h => ?_⟩⟩⟩
  · repeat' (first | with_reducible rfl | exact True.intro | apply And.intro)
    all_goals first | rfl | exact (hz (keyS ks) hkl).trans (xP_0 (keyS ks) pad).symm
  · have h := of_decide_eq_true h
    have hlt : x < 64 := by omega
    have hxl := xP_len (ks := (keyS ks)) hkl pad (k := x) (by omega)
    simp only [Int.toNat_natCast, xP_get (ks := (keyS ks)) hkl pad hlt, xP_set (ks := (keyS ks)) hkl pad hlt]
    repeat' (first | with_reducible rfl | exact True.intro | with_reducible assumption | apply And.intro | refine Exists.intro (x + 1) ?_)
    all_goals first | omega | (show x + 1 ≤ 64; omega)
  · have h := of_decide_eq_false h
    have hx : x ≤ 64 := hx
    obtain rfl : x = 64 := by omega
    repeat' (first | with_reducible rfl | exact True.intro | apply And.intro)
    all_goals first | rfl | (rw [xP_all (ks := (keyS ks)) hkl]; unfold padS; rfl)
noncomputable def c_paddedL : ECon
  | [.rd .u8 v ks, .int .u8 pad], [] => some ([64 < ks.length, (ks.length : Int) ≤ 60000000000, (∀ x ∈ ks, InK .u8 x)], [⟨none, .on 0 64 false, [some ⟨5, [.ints .u8 64 (padS ks pad)], 1, none⟩]⟩])
  | _, _ => none
theorem c_paddedL_e : EEntry Tryd.prog 61 c_paddedL := by
  refine ⟨callFunc_ok Tryd.func61 (by kernel_rfl) (by kernel_rfl), fun args rows ps alts h hp => ?_⟩
  unfold c_paddedL at h
  split at h
  · cases h; exact paddedL_ok _ _ _ (hp _ (List.mem_of_getElem? (i := 0) rfl)) (hp _ (List.mem_of_getElem? (i := 1) rfl)) (hp _ (List.mem_of_getElem? (i := 2) rfl))
  · cases h

end Go.Proofs.YtheeaplnobdpoaaDoor
