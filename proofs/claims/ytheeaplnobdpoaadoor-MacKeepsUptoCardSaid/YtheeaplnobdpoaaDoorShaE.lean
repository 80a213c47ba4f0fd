/- Sums as the document has them. No condition beyond lengths. -/
import Derived.Test.YtheeaplnobdpoaaDoorShaD
namespace Go.Proofs.YtheeaplnobdpoaaDoor
open Go.RowKit Sx
set_option linter.unusedVariables false
set_option linter.unusedSimpArgs false
set_option maxRecDepth 100000
set_option maxHeartbeats 4000000
/-- The state behind so many blocks of bytes. -/
def stB (st bs : List Int) : Nat → List Int
  | 0 => st
  | k + 1 => blockS (stB st bs k) (wB (bs.drop (64 * k)) 16)
theorem stB_8 {st bs : List Int} (h : st = [st.getD 0 0, st.getD 1 0, st.getD 2 0, st.getD 3 0, st.getD 4 0, st.getD 5 0, st.getD 6 0, st.getD 7 0]) (k : Nat) : [(stB st bs k).getD 0 0, (stB st bs k).getD 1 0, (stB st bs k).getD 2 0, (stB st bs k).getD 3 0, (stB st bs k).getD 4 0, (stB st bs k).getD 5 0, (stB st bs k).getD 6 0, (stB st bs k).getD 7 0] = stB st bs k := by
  cases k with
  | zero => exact h.symm
  | succ k => exact (blockS_8 _ _).symm
/-- Four bytes of each word. -/
def bO : List Int → List Int
  | [] => []
  | w :: r => [IntKind.u8.wrap (w / 16777216), IntKind.u8.wrap (w / 65536), IntKind.u8.wrap (w / 256), IntKind.u8.wrap w] ++ bO r
theorem bO_append : ∀ (a b : List Int), bO (a ++ b) = bO a ++ bO b
  | [], b => rfl
  | w :: a, b => by simp only [List.cons_append, List.nil_append, bO, bO_append a b]
theorem bO_len : ∀ (l : List Int), (bO l).length = 4 * l.length
  | [] => rfl
  | w :: l => by simp [bO, bO_len l]; omega
theorem bO_take {ws : List Int} {x : Nat} (h : x < ws.length) : bO (ws.take (x + 1)) = bO (ws.take x) ++ [IntKind.u8.wrap (ws.getD x 0 / 16777216), IntKind.u8.wrap (ws.getD x 0 / 65536), IntKind.u8.wrap (ws.getD x 0 / 256), IntKind.u8.wrap (ws.getD x 0)] := by
  rw [List.take_add_one, bO_append, List.getElem?_eq_getElem h, List.getD_eq_getElem?_getD, List.getElem?_eq_getElem h]
  rfl
/-- The zeros behind the one bit's byte, so many bytes being there. -/
def zB (m : Nat) : Nat := (119 - m % 64) % 64
/-- The highest bytes of a long word, so many. -/
def beL (n : Int) (k : Nat) : List Int := (List.range k).map fun j => IntKind.u8.wrap (n / 2 ^ (8 * (7 - j)))
theorem beL_len (n : Int) (k : Nat) : (beL n k).length = k := by simp [beL]
theorem beL_succ (n : Int) (k : Nat) : beL n (k + 1) = beL n k ++ [IntKind.u8.wrap (n / 2 ^ (8 * (7 - k)))] := by simp [beL, List.range_succ]
def padB (rest : List Int) (long : Int) : List Int := rest ++ [128] ++ List.replicate (zB rest.length) 0 ++ beL long 8
theorem wrap8_in (x : Int) : InK .u8 (IntKind.u8.wrap x) := by
  unfold IntKind.wrap
  simp [IntKind.bits, IntKind.signed, InK]
  omega
theorem padB_in {rest : List Int} {n : Int} (h : ∀ x ∈ rest, InK .u8 x) : ∀ x ∈ padB rest n, InK .u8 x := by
  intro x hx
  simp only [padB, List.mem_append, List.mem_singleton, beL, List.mem_map, List.mem_replicate] at hx
  rcases hx with ((hx | rfl) | ⟨_, rfl⟩) | ⟨j, _, rfl⟩
  · exact h x hx
  · simp [InK]
  · simp [InK]
  · exact wrap8_in _
noncomputable def pt_sf : List (Nat × (List SV → Option (List Prop × SV))) := []
theorem pt_sf_ok : PureOK Tryd.prog (fun f => List.lookup f pt_sf) := pure_list pt_sf trivial
noncomputable abbrev cx_sf (must : Nat → Option Bool := fun _ => none) (loop : Nat → SS → Option LoopSpec := fun _ _ => none) : Ctx := ⟨tab, inl tab (fun f => List.lookup f pt_sf) fns (fun _ => {}) 1000 4, fun f => List.lookup f pt_sf, must, loop, 0, 0, fun _ => none⟩
theorem cx_sf_ok (must : Nat → Option Bool) (loop : Nat → SS → Option LoopSpec) : CxOK Tryd.prog (cx_sf must loop) := inl_ok mixed tab_ok pt_sf_ok fns_ok 4 _ _ _ _
theorem blockAt_ok (v : Value) (bs : List Int) (i : Int) (h0 : 0 ≤ i) (h1 : i + 64 ≤ bs.length) (h2 : (∀ x ∈ bs, InK .u8 x)) (h3 : (bs.length : Int) ≤ 400000000000) : PureSem Tryd.prog 105 [.rd .u8 v bs, .int .i64 i] (.agg [.ints .u32 16 (wB (bs.drop i.toNat) 16)]) := by
  refine pure_intro mixed (cx_sf_ok (fun _ => none) (fun q s => bif Nat.beq q 3 then some ⟨Nat, fun j => s.upd [] [(6, .int .i64 j)] [(1, some ⟨125, [.ints .u32 16 (wP (bs.drop i.toNat) 16 j)], 0, none⟩)], fun j => j ≤ 16, fun j => 16 - j⟩ else bif Nat.beq q 6 then some ⟨Nat, fun k => s.upd [] [(7, .int .i64 k)] [(1, some ⟨125, [.ints .u32 16 ((wP (bs.drop i.toNat) 16 (tmI s 6).toNat).set (tmI s 6).toNat (pB (bs.drop i.toNat) (tmI s 6).toNat k))], 0, none⟩)], fun k => k ≤ 4, fun k => 4 - k⟩ else none)) Tryd.func105 1000 rfl rfl ?_
  refine of_nf (p := ∃ (x : Nat), (((0 : Int) = ((x : Nat) : Int) ∧ SV.ptr (1 : Nat) (0 : Nat) = SV.ptr (1 : Nat) (0 : Nat) ∧ SV.ptr (0 : Nat) (0 : Nat) = SV.ptr (0 : Nat) (0 : Nat) ∧ (v = v ∧ bs = bs) ∧ i = i ∧ True) ∧ ((125 : Nat) = (125 : Nat) ∧ (0 : Nat) = (0 : Nat) ∧ [(0 : Int), (0 : Int), (0 : Int), (0 : Int), (0 : Int), (0 : Int), (0 : Int), (0 : Int), (0 : Int), (0 : Int), (0 : Int), (0 : Int), (0 : Int), (0 : Int), (0 : Int), (0 : Int)] = [(0 : Int), (0 : Int), (0 : Int), (0 : Int), (0 : Int), (0 : Int), (0 : Int), (0 : Int), (0 : Int), (0 : Int), (0 : Int), (0 : Int), (0 : Int), (0 : Int), (0 : Int), (0 : Int)] ∧ True) ∧ ((125 : Nat) = (125 : TypeId) ∧ (0 : Nat) = (0 : Nat) ∧ [(0 : Int), (0 : Int), (0 : Int), (0 : Int), (0 : Int), (0 : Int), (0 : Int), (0 : Int), (0 : Int), (0 : Int), (0 : Int), (0 : Int), (0 : Int), (0 : Int), (0 : Int), (0 : Int)] = wP (List.drop i.toNat bs) (16 : Nat) x ∧ True) ∧ True) ∧ x.le (16 : Nat) ∧ ∀ (x : Nat), x.le (16 : Nat) → (decide (((x : Nat) : Int) < (16 : Int)) = true → ∃ (x_1 : Nat), (((0 : Int) = ((x_1 : Nat) : Int) ∧ SV.litb true = SV.litb true ∧ ((x : Nat) : Int) = ((x : Nat) : Int) ∧ ((x : Nat) : Int) = ((x : Nat) : Int) ∧ SV.ptr (1 : Nat) (0 : Nat) = SV.ptr (1 : Nat) (0 : Nat) ∧ SV.ptr (0 : Nat) (0 : Nat) = SV.ptr (0 : Nat) (0 : Nat) ∧ (v = v ∧ bs = bs) ∧ i = i ∧ True) ∧ ((125 : Nat) = (125 : Nat) ∧ (0 : Nat) = (0 : Nat) ∧ [(0 : Int), (0 : Int), (0 : Int), (0 : Int), (0 : Int), (0 : Int), (0 : Int), (0 : Int), (0 : Int), (0 : Int), (0 : Int), (0 : Int), (0 : Int), (0 : Int), (0 : Int), (0 : Int)] = [(0 : Int), (0 : Int), (0 : Int), (0 : Int), (0 : Int), (0 : Int), (0 : Int), (0 : Int), (0 : Int), (0 : Int), (0 : Int), (0 : Int), (0 : Int), (0 : Int), (0 : Int), (0 : Int)] ∧ True) ∧ ((125 : TypeId) = (125 : TypeId) ∧ (0 : Nat) = (0 : Nat) ∧ wP (List.drop i.toNat bs) (16 : Nat) x = (wP (List.drop i.toNat bs) (16 : Nat) (((x : Nat) : Int)).toNat).set (((x : Nat) : Int)).toNat (pB (List.drop i.toNat bs) (((x : Nat) : Int)).toNat x_1) ∧ True) ∧ True) ∧ x_1.le (4 : Nat) ∧ ∀ (x_2 : Nat), x_2.le (4 : Nat) → (decide (((x_2 : Nat) : Int) < (4 : Int)) = true → (0 : Int) ≤ ((x : Nat) : Int) ∧ ((x : Nat) : Int) < (16 : Int) ∧ (0 : Int) ≤ ((x : Nat) : Int) ∧ ((x : Nat) : Int) < (((16 : Nat) : Nat) : Int) ∧ ((-9223372036854775808 : Int) ≤ (4 : Int) * ((x : Nat) : Int) ∧ (4 : Int) * ((x : Nat) : Int) < (9223372036854775808 : Int)) ∧ ((-9223372036854775808 : Int) ≤ i + (4 : Int) * ((x : Nat) : Int) ∧ i + (4 : Int) * ((x : Nat) : Int) < (9223372036854775808 : Int)) ∧ ((-9223372036854775808 : Int) ≤ i + (4 : Int) * ((x : Nat) : Int) + ((x_2 : Nat) : Int) ∧ i + (4 : Int) * ((x : Nat) : Int) + ((x_2 : Nat) : Int) < (9223372036854775808 : Int)) ∧ (0 : Int) ≤ i + (4 : Int) * ((x : Nat) : Int) + ((x_2 : Nat) : Int) ∧ i + (4 : Int) * ((x : Nat) : Int) + ((x_2 : Nat) : Int) < ((bs.length : Nat) : Int) ∧ ((0 : Int) ≤ bs.getD (i + (4 : Int) * ((x : Nat) : Int) + ((x_2 : Nat) : Int)).toNat (0 : Int) ∧ bs.getD (i + (4 : Int) * ((x : Nat) : Int) + ((x_2 : Nat) : Int)).toNat (0 : Int) < (256 : Int)) ∧ (0 : Int) ≤ ((x : Nat) : Int) ∧ ((x : Nat) : Int) < (16 : Int) ∧ (0 : Int) ≤ ((x : Nat) : Int) ∧ ((x : Nat) : Int) < (((16 : Nat) : Nat) : Int) ∧ ((wP (List.drop i.toNat bs) (16 : Nat) (((x : Nat) : Int)).toNat).set (((x : Nat) : Int)).toNat (pB (List.drop i.toNat bs) (((x : Nat) : Int)).toNat x_2)).length = (16 : Nat) ∧ ((-9223372036854775808 : Int) ≤ ((x_2 : Nat) : Int) + (1 : Int) ∧ ((x_2 : Nat) : Int) + (1 : Int) < (9223372036854775808 : Int)) ∧ ∃ (y : Nat), ((((x_2 : Nat) : Int) + (1 : Int) = ((y : Nat) : Int) ∧ SV.litb true = SV.litb true ∧ ((x : Nat) : Int) = ((x : Nat) : Int) ∧ ((x : Nat) : Int) = ((x : Nat) : Int) ∧ SV.ptr (1 : Nat) (0 : Nat) = SV.ptr (1 : Nat) (0 : Nat) ∧ SV.ptr (0 : Nat) (0 : Nat) = SV.ptr (0 : Nat) (0 : Nat) ∧ (v = v ∧ bs = bs) ∧ i = i ∧ True) ∧ ((125 : Nat) = (125 : Nat) ∧ (0 : Nat) = (0 : Nat) ∧ [(0 : Int), (0 : Int), (0 : Int), (0 : Int), (0 : Int), (0 : Int), (0 : Int), (0 : Int), (0 : Int), (0 : Int), (0 : Int), (0 : Int), (0 : Int), (0 : Int), (0 : Int), (0 : Int)] = [(0 : Int), (0 : Int), (0 : Int), (0 : Int), (0 : Int), (0 : Int), (0 : Int), (0 : Int), (0 : Int), (0 : Int), (0 : Int), (0 : Int), (0 : Int), (0 : Int), (0 : Int), (0 : Int)] ∧ True) ∧ (nat_lit 124 + (1 : Nat) = (125 : TypeId) ∧ (0 : Nat) = (0 : Nat) ∧ ((wP (List.drop i.toNat bs) (16 : Nat) (((x : Nat) : Int)).toNat).set (((x : Nat) : Int)).toNat (pB (List.drop i.toNat bs) (((x : Nat) : Int)).toNat x_2)).set (((x : Nat) : Int)).toNat (IntKind.u32.wrap (IntKind.u32.wrap (((wP (List.drop i.toNat bs) (16 : Nat) (((x : Nat) : Int)).toNat).set (((x : Nat) : Int)).toNat (pB (List.drop i.toNat bs) (((x : Nat) : Int)).toNat x_2)).getD (((x : Nat) : Int)).toNat (0 : Int) * (256 : Int)) + bs.getD (i + (4 : Int) * ((x : Nat) : Int) + ((x_2 : Nat) : Int)).toNat (0 : Int))) = (wP (List.drop i.toNat bs) (16 : Nat) (((x : Nat) : Int)).toNat).set (((x : Nat) : Int)).toNat (pB (List.drop i.toNat bs) (((x : Nat) : Int)).toNat y) ∧ True) ∧ True) ∧ y.le (4 : Nat) ∧ (4 : Nat) - y < (4 : Nat) - x_2) ∧ (decide (((x_2 : Nat) : Int) < (4 : Int)) = false → ((-9223372036854775808 : Int) ≤ ((x : Nat) : Int) + (1 : Int) ∧ ((x : Nat) : Int) + (1 : Int) < (9223372036854775808 : Int)) ∧ ∃ (y : Nat), ((((x : Nat) : Int) + (1 : Int) = ((y : Nat) : Int) ∧ SV.ptr (1 : Nat) (0 : Nat) = SV.ptr (1 : Nat) (0 : Nat) ∧ SV.ptr (0 : Nat) (0 : Nat) = SV.ptr (0 : Nat) (0 : Nat) ∧ (v = v ∧ bs = bs) ∧ i = i ∧ True) ∧ ((125 : Nat) = (125 : Nat) ∧ (0 : Nat) = (0 : Nat) ∧ [(0 : Int), (0 : Int), (0 : Int), (0 : Int), (0 : Int), (0 : Int), (0 : Int), (0 : Int), (0 : Int), (0 : Int), (0 : Int), (0 : Int), (0 : Int), (0 : Int), (0 : Int), (0 : Int)] = [(0 : Int), (0 : Int), (0 : Int), (0 : Int), (0 : Int), (0 : Int), (0 : Int), (0 : Int), (0 : Int), (0 : Int), (0 : Int), (0 : Int), (0 : Int), (0 : Int), (0 : Int), (0 : Int)] ∧ True) ∧ ((125 : TypeId) = (125 : TypeId) ∧ (0 : Nat) = (0 : Nat) ∧ (wP (List.drop i.toNat bs) (16 : Nat) (((x : Nat) : Int)).toNat).set (((x : Nat) : Int)).toNat (pB (List.drop i.toNat bs) (((x : Nat) : Int)).toNat x_2) = wP (List.drop i.toNat bs) (16 : Nat) y ∧ True) ∧ True) ∧ y.le (16 : Nat) ∧ (16 : Nat) - y < (16 : Nat) - x)) ∧ (decide (((x : Nat) : Int) < (16 : Int)) = false → wP (List.drop i.toNat bs) (16 : Nat) x = wB (List.drop i.toNat bs) (16 : Nat) ∧ True)) (by kernel_rfl) ?_
  have hu := fun k => getD_u8 (l := bs.drop i.toNat) (fun x hx => h2 x (List.mem_of_mem_drop hx)) k
  have hg : ∀ k : Nat, bs.getD (i.toNat + k) 0 = (bs.drop i.toNat).getD k 0 := fun k => by
    rw [List.getD_eq_getElem?_getD, List.getD_eq_getElem?_getD, List.getElem?_drop]
  refine ⟨0, ?_, Nat.zero_le _, fun x hx => ⟨fun hlt => ?_, fun hge => ?_⟩⟩
  · repeat' (first | with_reducible rfl | exact True.intro | apply And.intro | (intro _h; cases _h; done) | exact OwnSame.mk fun _ => rfl | exact OwnSameE.mk fun _ => rfl | intro _h | apply pieceEq)
    all_goals (first | exact True.intro | omega | rfl)
  · have hx : x ≤ 16 := hx
    have hlt : x < 16 := by have := of_decide_eq_true hlt; omega
    have hp := pB_in (bs := bs.drop i.toNat) (fun y hy => h2 y (List.mem_of_mem_drop hy)) x
    refine ⟨0, ?_, Nat.zero_le _, fun j hj => ⟨fun hlt2 => ?_, fun hge2 => ?_⟩⟩
    · repeat' (first | with_reducible rfl | exact True.intro | apply And.intro | (intro _h; cases _h; done) | exact OwnSame.mk fun _ => rfl | exact OwnSameE.mk fun _ => rfl | intro _h | apply pieceEq)
      all_goals (first | exact True.intro | omega | exact wP_set0 hlt)
    · have hj : j ≤ 4 := hj
      have hlt2 : j < 4 := by have := of_decide_eq_true hlt2; omega
      have hpj := hp j
      have hb := hu (4 * x + j)
      have hsm : pB (bs.drop i.toNat) x j < 16777216 := by
        rcases (by omega : j = 0 ∨ j = 1 ∨ j = 2 ∨ j = 3) with rfl | rfl | rfl | rfl <;> omega
      have ei : (i + 4 * (x : Int) + (j : Int)).toNat = i.toNat + (4 * x + j) := by omega
      have ho : IntKind.u32.wrap (IntKind.u32.wrap (pB (bs.drop i.toNat) x j * 256) + (bs.drop i.toNat).getD (4 * x + j) 0) = pB (bs.drop i.toNat) x (j + 1) := by
        rw [w_u32 (x := pB (bs.drop i.toNat) x j * 256) (by omega), w_u32 (by omega)]; rfl
      simp only [ei, hg, Int.toNat_natCast, wP_getset hlt, List.set_set, ho, List.length_set, wP_len (Nat.le_of_lt hlt)]
      repeat' (first | with_reducible rfl | exact True.intro | apply And.intro | (intro _h; cases _h; done) | exact OwnSame.mk fun _ => rfl | exact OwnSameE.mk fun _ => rfl | intro _h | apply pieceEq)
      all_goals (first | exact True.intro | omega | skip)
      refine ⟨j + 1, ?_⟩
      repeat' (first | with_reducible rfl | exact True.intro | apply And.intro | (intro _h; cases _h; done) | exact OwnSame.mk fun _ => rfl | exact OwnSameE.mk fun _ => rfl | intro _h | apply pieceEq)
      all_goals (first | exact True.intro | omega | (show j + 1 ≤ 4; omega))
    · have hj : j ≤ 4 := hj
      have hge2 : ¬ j < 4 := by intro h; have := of_decide_eq_false hge2; omega
      obtain rfl : j = 4 := by omega
      simp only [Int.toNat_natCast]
      rw [wP_next hlt]
      repeat' (first | with_reducible rfl | exact True.intro | apply And.intro | (intro _h; cases _h; done) | exact OwnSame.mk fun _ => rfl | exact OwnSameE.mk fun _ => rfl | intro _h | apply pieceEq)
      all_goals (first | exact True.intro | omega | skip)
      refine ⟨x + 1, ?_⟩
      repeat' (first | with_reducible rfl | exact True.intro | apply And.intro | (intro _h; cases _h; done) | exact OwnSame.mk fun _ => rfl | exact OwnSameE.mk fun _ => rfl | intro _h | apply pieceEq)
      all_goals (first | exact True.intro | omega | (show x + 1 ≤ 16; omega))
  · have hx : x ≤ 16 := hx
    have hge : ¬ x < 16 := by intro h; have := of_decide_eq_false hge; omega
    obtain rfl : x = 16 := by omega
    repeat' (first | with_reducible rfl | exact True.intro | apply And.intro | (intro _h; cases _h; done) | exact OwnSame.mk fun _ => rfl | exact OwnSameE.mk fun _ => rfl | intro _h | apply pieceEq)
    all_goals (first | exact True.intro | omega | exact wP_all)
noncomputable def c_blockAt : List SV → Option (List Prop × SV)
  | [.rd .u8 v bs, .int .i64 i] => some ([0 ≤ i, i + 64 ≤ bs.length, (∀ x ∈ bs, InK .u8 x), (bs.length : Int) ≤ 400000000000], .agg [.ints .u32 16 (wB (bs.drop i.toNat) 16)])
  | _ => none
theorem c_blockAt_e : PEntry Tryd.prog 105 c_blockAt := by
  refine ⟨callFunc_ok Tryd.func105 (by kernel_rfl) (by kernel_rfl), fun args ps v h hp => ?_⟩
  unfold c_blockAt at h
  split at h
  · cases h; exact blockAt_ok _ _ _ (hp _ (List.mem_of_getElem? (i := 0) rfl)) (hp _ (List.mem_of_getElem? (i := 1) rfl)) (hp _ (List.mem_of_getElem? (i := 2) rfl)) (hp _ (List.mem_of_getElem? (i := 3) rfl))
  · cases h
theorem RbytesOf_ok (v : Value) (ws : List Int) (h0 : (∀ x ∈ ws, InK .u32 x)) (h1 : (ws.length : Int) ≤ 15000000000) : SemCall Tryd.prog 97 [.rd .u32 v ws] [] (AltK [⟨none, .on 0 (4 * ws.length) true, [some ⟨5, [.ints .u8 (4 * ws.length) (bO ws)], 1, none⟩]⟩]) := by
  refine con_intro mixed (cx_sf_ok (fun _ => none) (fun q s => bif Nat.beq q 3 then some ⟨Nat, fun k => ⟨[(0, .rd .u32 v ws), (3, .on 0 (4 * k) true), (4, .int .i64 k)], [some ⟨5, [.ints .u8 (4 * k) (bO (ws.take k))], 1, none⟩]⟩, fun k => k ≤ ws.length, fun k => ws.length - k⟩ else none)) Tryd.func97 1000 ?_
  refine of_nf (p := ∃ (x : Nat), (((v = v ∧ ws = ws) ∧ ((0 : Nat) = (4 : Nat) * x ∧ true = true) ∧ (0 : Int) = ((x : Nat) : Int) ∧ True) ∧ ((5 : TypeId) = (5 : TypeId) ∧ (1 : Nat) = (1 : Nat) ∧ @Bool.rec (fun _ => Prop) False ([] = bO (List.take x ws)) (true && Nat.beq (0 : Nat) ((4 : Nat) * x)) ∧ True) ∧ True) ∧ x.le ws.length ∧ ∀ (x : Nat), x.le ws.length → (decide (((x : Nat) : Int) < ((ws.length : Nat) : Int)) = true → (0 : Int) ≤ ((x : Nat) : Int) ∧ ((x : Nat) : Int) < ((ws.length : Nat) : Int) ∧ (4 : Nat) * x = (4 : Nat) * x ∧ (bO (List.take x ws)).length = (4 : Nat) * x ∧ (4 : Nat) * x + (4 : Nat) ≤ (68719476736 : Nat) ∧ ((-9223372036854775808 : Int) ≤ ((x : Nat) : Int) + (1 : Int) ∧ ((x : Nat) : Int) + (1 : Int) < (9223372036854775808 : Int)) ∧ ∃ (y : Nat), (((v = v ∧ ws = ws) ∧ ((4 : Nat) * x + (4 : Nat) = (4 : Nat) * y ∧ true = true) ∧ ((x : Nat) : Int) + (1 : Int) = ((y : Nat) : Int) ∧ True) ∧ (nat_lit 4 + (1 : Nat) = (5 : TypeId) ∧ nat_lit 0 + (1 : Nat) = (1 : Nat) ∧ @Bool.rec (fun _ => Prop) False ((bO (List.take x ws)).append [IntKind.u8.wrap (ws.getD (((x : Nat) : Int)).toNat (0 : Int) / (16777216 : Int)), IntKind.u8.wrap (ws.getD (((x : Nat) : Int)).toNat (0 : Int) / (65536 : Int)), IntKind.u8.wrap (ws.getD (((x : Nat) : Int)).toNat (0 : Int) / (256 : Int)), IntKind.u8.wrap (ws.getD (((x : Nat) : Int)).toNat (0 : Int))] = bO (List.take y ws)) (true && ((4 : Nat) * x + (4 : Nat)).beq ((4 : Nat) * y)) ∧ True) ∧ True) ∧ y.le ws.length ∧ ws.length - y < ws.length - x) ∧ (decide (((x : Nat) : Int) < ((ws.length : Nat) : Int)) = false → (((4 : Nat) * x = (4 : Nat) * ws.length ∧ true = true) ∧ True) ∧ ((5 : TypeId) = (5 : TypeId) ∧ (1 : Nat) = (1 : Nat) ∧ @Bool.rec (fun _ => Prop) False (bO (List.take x ws) = bO ws) (true && ((4 : Nat) * x).beq ((4 : Nat) * ws.length)) ∧ True) ∧ True)) (by kernel_rfl) ?_
  refine ⟨0, ?_, Nat.zero_le _, fun x hx => ⟨fun hlt => ?_, fun hge => ?_⟩⟩
  · repeat' (first | with_reducible rfl | exact True.intro | apply And.intro | (intro _h; cases _h; done) | exact OwnSame.mk fun _ => rfl | exact OwnSameE.mk fun _ => rfl | intro _h | apply pieceEq)
    all_goals (first | exact True.intro | omega | rfl)
  · have hx : x ≤ ws.length := hx
    have hlt : x < ws.length := by have := of_decide_eq_true hlt; omega
    have hl := bO_len (ws.take x)
    rw [List.length_take, Nat.min_eq_left hx] at hl
    have hs := bO_take hlt
    simp only [Int.toNat_natCast]
    repeat' (first | with_reducible rfl | exact True.intro | apply And.intro | (intro _h; cases _h; done) | exact OwnSame.mk fun _ => rfl | exact OwnSameE.mk fun _ => rfl | intro _h | apply pieceEq)
    all_goals (first | exact True.intro | omega | exact hl | skip)
    refine ⟨x + 1, ?_⟩
    repeat' (first | with_reducible rfl | exact True.intro | apply And.intro | (intro _h; cases _h; done) | exact OwnSame.mk fun _ => rfl | exact OwnSameE.mk fun _ => rfl | intro _h | apply pieceEq)
    all_goals (first | exact True.intro | omega | (show x + 1 ≤ ws.length; omega) | exact hs.symm)
  · have hx : x ≤ ws.length := hx
    have hge : ¬ x < ws.length := by intro h; have := of_decide_eq_false hge; omega
    obtain rfl : x = ws.length := by omega
    repeat' (first | with_reducible rfl | exact True.intro | apply And.intro | (intro _h; cases _h; done) | exact OwnSame.mk fun _ => rfl | exact OwnSameE.mk fun _ => rfl | intro _h | apply pieceEq)
    all_goals (first | exact True.intro | omega | (rw [List.take_length]))
noncomputable def c_RbytesOf : ECon
  | [.rd .u32 v ws], [] => some ([(∀ x ∈ ws, InK .u32 x), (ws.length : Int) ≤ 15000000000], [⟨none, .on 0 (4 * ws.length) true, [some ⟨5, [.ints .u8 (4 * ws.length) (bO ws)], 1, none⟩]⟩])
  | _, _ => none
theorem c_RbytesOf_e : EEntry Tryd.prog 97 c_RbytesOf := by
  refine ⟨callFunc_ok Tryd.func97 (by kernel_rfl) (by kernel_rfl), fun args rows ps alts h hp => ?_⟩
  unfold c_RbytesOf at h
  split at h
  · cases h; exact RbytesOf_ok _ _ (hp _ (List.mem_of_getElem? (i := 0) rfl)) (hp _ (List.mem_of_getElem? (i := 1) rfl))
  · cases h
noncomputable def pt_sg : List (Nat × (List SV → Option (List Prop × SV))) := [(105, c_blockAt)]
theorem pt_sg_ok : PureOK Tryd.prog (fun f => List.lookup f pt_sg) := pure_list pt_sg ⟨c_blockAt_e, trivial⟩
noncomputable abbrev cx_sg (must : Nat → Option Bool := fun _ => none) (loop : Nat → SS → Option LoopSpec := fun _ _ => none) : Ctx := ⟨tab, inl tab (fun f => List.lookup f pt_sg) fns (fun _ => {}) 1000 4, fun f => List.lookup f pt_sg, must, loop, 0, 0, fun _ => none⟩
theorem cx_sg_ok (must : Nat → Option Bool) (loop : Nat → SS → Option LoopSpec) : CxOK Tryd.prog (cx_sg must loop) := inl_ok mixed tab_ok pt_sg_ok fns_ok 4 _ _ _ _
end Go.Proofs.YtheeaplnobdpoaaDoor
