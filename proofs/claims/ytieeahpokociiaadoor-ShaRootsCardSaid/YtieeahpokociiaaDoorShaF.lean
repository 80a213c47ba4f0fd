/- Sums as the document has them; lists lent. No condition beyond lengths. -/
import Derived.Test.YtieeahpokociiaaDoorShaE
namespace Go.Proofs.YtieeahpokociiaaDoor
open Go.RowKit Sx
set_option linter.unusedVariables false
set_option linter.unusedSimpArgs false
set_option maxRecDepth 100000
set_option maxHeartbeats 4000000
theorem pB_drop (bs : List Int) (a i : Nat) : ∀ j, pB (bs.drop (4 * a)) i j = pB bs (a + i) j
  | 0 => rfl
  | j + 1 => by
    simp only [pB, pB_drop bs a i j]
    rw [List.getD_eq_getElem?_getD, List.getElem?_drop, List.getD_eq_getElem?_getD, show 4 * a + (4 * i + j) = 4 * (a + i) + j by omega]
theorem wB_slice (bs : List Int) {n a b : Nat} (h : a + b ≤ n) : ((wB bs n).drop a).take b = wB (bs.drop (4 * a)) b := by
  apply List.ext_getElem?
  intro i
  unfold wB
  rw [List.getElem?_take, List.getElem?_drop, List.getElem?_map, List.getElem?_map]
  by_cases hi : i < b
  · rw [if_pos hi, List.getElem?_range (by omega), List.getElem?_range hi]
    simp only [Option.map_some, pB_drop]
  · rw [if_neg hi, List.getElem?_eq_none (by simp; omega)]; rfl
theorem stA_wB (st bs : List Int) {n : Nat} : ∀ {k : Nat}, 16 * k ≤ n → stA st (wB bs n) k = stB st bs k
  | 0, _ => rfl
  | k + 1, h => by
    simp only [stA, stB]
    rw [stA_wB st bs (by omega), wB_slice bs (by omega), show 4 * (16 * k) = 64 * k by omega]
theorem wB_drop (bs : List Int) {n a : Nat} (h : a ≤ n) : (wB bs n).drop a = wB (bs.drop (4 * a)) (n - a) := by
  rw [← wB_slice bs (n := n) (a := a) (b := n - a) (by omega), List.take_of_length_le]
  rw [List.length_drop, wB_len]; exact Nat.le_refl _
theorem getD_app_l {a b : List Int} {i : Nat} (h : i < a.length) : (a ++ b).getD i 0 = a.getD i 0 := by
  simp [List.getD_eq_getElem?_getD, List.getElem?_append_left h]
theorem getD_app_r {a b : List Int} {i : Nat} (h : a.length ≤ i) : (a ++ b).getD i 0 = b.getD (i - a.length) 0 := by
  simp [List.getD_eq_getElem?_getD, List.getElem?_append_right h]
theorem getD_rep {n i : Nat} {x : Int} : (List.replicate n x).getD i 0 = if i < n then x else 0 := by
  simp only [List.getD_eq_getElem?_getD, List.getElem?_replicate]
  split <;> rfl
theorem lP_drop (bs : List Int) (a q : Nat) : ∀ j, lP (bs.drop (4 * a)) q j = lP bs (a + q) j
  | 0 => rfl
  | j + 1 => by
    simp only [lP, lP_drop bs a q j]
    rw [List.getD_eq_getElem?_getD, List.getElem?_drop, List.getD_eq_getElem?_getD, show 4 * a + (4 * q + j) = 4 * (a + q) + j by omega]
theorem lastB_drop {bs : List Int} {a : Nat} (h : 4 * a ≤ bs.length) : lastB (bs.drop (4 * a)) = lastB bs := by
  unfold lastB
  rw [lP_drop, List.length_drop, show (bs.length - 4 * a) % 4 = bs.length % 4 by omega, show a + (bs.length - 4 * a) / 4 = bs.length / 4 by omega]
theorem wrap8 (x : Int) : IntKind.u8.wrap x = x % 256 := by unfold IntKind.wrap; simp [IntKind.bits, IntKind.signed]
theorem zz (r : Nat) : r + 1 + zB r = 4 * (r / 4 + 1 + zN (r / 4)) := by unfold zB zN; omega
theorem list_eq {a b : List Int} (hl : a.length = b.length) (h : ∀ i, i < a.length → a.getD i 0 = b.getD i 0) : a = b := by
  apply List.ext_getElem hl
  intro i h1 h2
  have := h i h1
  rwa [List.getD_eq_getElem?_getD, List.getElem?_eq_getElem h1, List.getD_eq_getElem?_getD, List.getElem?_eq_getElem h2] at this
theorem wB_getD {bs : List Int} {n i : Nat} (h : i < n) : (wB bs n).getD i 0 = ((bs.getD (4 * i) 0 * 256 + bs.getD (4 * i + 1) 0) * 256 + bs.getD (4 * i + 2) 0) * 256 + bs.getD (4 * i + 3) 0 := by
  unfold wB
  rw [List.getD_eq_getElem?_getD, List.getElem?_map, List.getElem?_range h]
  simp [pB]
/-- The bytes of the padding. -/
theorem padB_a {rest : List Int} {n : Int} {i : Nat} (h : i < rest.length) : (padB rest n).getD i 0 = rest.getD i 0 := by
  unfold padB
  rw [List.append_assoc, List.append_assoc, getD_app_l h]
theorem padB_b {rest : List Int} {n : Int} : (padB rest n).getD rest.length 0 = 128 := by
  unfold padB
  rw [List.append_assoc, List.append_assoc, getD_app_r (Nat.le_refl _), Nat.sub_self, getD_app_l (by simp)]
  rfl
theorem padB_c {rest : List Int} {n : Int} {i : Nat} (h1 : rest.length < i) (h2 : i < rest.length + 1 + zB rest.length) : (padB rest n).getD i 0 = 0 := by
  unfold padB
  rw [getD_app_l (by simp; omega), getD_app_r (by simp; omega), getD_rep]
  split <;> rfl
theorem padB_d {rest : List Int} {n : Int} {j : Nat} (h : j < 8) : (padB rest n).getD (rest.length + 1 + zB rest.length + j) 0 = n / 2 ^ (8 * (7 - j)) % 256 := by
  unfold padB
  rw [getD_app_r (by simp; omega)]
  have : rest.length + 1 + zB rest.length + j - (rest ++ [128] ++ List.replicate (zB rest.length) 0).length = j := by simp; omega
  rw [this]
  unfold beL
  rw [List.getD_eq_getElem?_getD, List.getElem?_map, List.getElem?_range h]
  simp [wrap8]
theorem padB_len (rest : List Int) (n : Int) : (padB rest n).length = rest.length + 1 + zB rest.length + 8 := by simp [padB, beL_len]; omega
theorem padW {rest : List Int} {n : Int} (hn : 0 ≤ n ∧ n < 18446744073709551616) : padL (wB rest (rest.length / 4)) (lastB rest) n = wB (padB rest n) ((padB rest n).length / 4) := by
  have hz := zz rest.length
  have hlen : (padL (wB rest (rest.length / 4)) (lastB rest) n).length = rest.length / 4 + 1 + zN (rest.length / 4) + 2 := by rw [padL_len, wB_len]
  have hlen2 : (padB rest n).length / 4 = rest.length / 4 + 1 + zN (rest.length / 4) + 2 := by rw [padB_len]; omega
  refine list_eq (by rw [hlen, wB_len, hlen2]) fun i hi => ?_
  rw [hlen] at hi
  rw [wB_getD (by rw [hlen2]; exact hi)]
  by_cases c1 : i < rest.length / 4
  · rw [padB_a (by omega), padB_a (by omega), padB_a (by omega), padB_a (by omega), ← wB_getD c1]
    unfold padL
    rw [List.append_assoc, List.append_assoc, getD_app_l (by rw [wB_len]; exact c1)]
  · by_cases c2 : i = rest.length / 4
    · subst c2
      have e1 : (padL (wB rest (rest.length / 4)) (lastB rest) n).getD (rest.length / 4) 0 = lastB rest := by
        unfold padL
        rw [List.append_assoc, List.append_assoc, getD_app_r (by rw [wB_len]; exact Nat.le_refl _), wB_len, Nat.sub_self]
        rfl
      rw [e1]
      unfold lastB
      obtain ⟨q, c, hq, hc⟩ : ∃ q c, rest.length = 4 * q + c ∧ c < 4 := ⟨rest.length / 4, rest.length % 4, by omega, by omega⟩
      have d1 : rest.length / 4 = q := by omega
      have d2 : rest.length % 4 = c := by omega
      have hpb := padB_b (rest := rest) (n := n)
      rw [hq] at hpb
      have hpc : ∀ i, rest.length < i → i < 4 * (q + 1) → (padB rest n).getD i 0 = 0 := fun i h1 h2 => padB_c h1 (by rw [hz, d1]; omega)
      have hpa : ∀ i, i < rest.length → (padB rest n).getD i 0 = rest.getD i 0 := fun i h => padB_a h
      rw [d1, d2]
      rcases (by omega : c = 0 ∨ c = 1 ∨ c = 2 ∨ c = 3) with rfl | rfl | rfl | rfl
      · rw [Nat.add_zero] at hpb
        rw [hpb, hpc (4 * q + 1) (by omega) (by omega), hpc (4 * q + 2) (by omega) (by omega), hpc (4 * q + 3) (by omega) (by omega)]
        simp only [lP]; omega
      · rw [hpa (4 * q) (by omega), hpb, hpc (4 * q + 2) (by omega) (by omega), hpc (4 * q + 3) (by omega) (by omega)]
        simp only [lP, Nat.add_zero]; omega
      · rw [hpa (4 * q) (by omega), hpa (4 * q + 1) (by omega), hpb, hpc (4 * q + 3) (by omega) (by omega)]
        simp only [lP, Nat.add_zero]; omega
      · rw [hpa (4 * q) (by omega), hpa (4 * q + 1) (by omega), hpa (4 * q + 2) (by omega), hpb]
        simp only [lP, Nat.add_zero]; omega
    · by_cases c3 : i < rest.length / 4 + 1 + zN (rest.length / 4)
      · rw [padB_c (by omega) (by omega), padB_c (by omega) (by omega), padB_c (by omega) (by omega), padB_c (by omega) (by omega)]
        unfold padL
        rw [getD_app_l (by simp [wB_len]; omega), getD_app_r (by simp [wB_len]; omega), getD_rep]
        split <;> rfl
      · have hd := fun j (h : j < 8) => padB_d (rest := rest) (n := n) h
        rw [hz] at hd
        have e2 : ∀ t, i = rest.length / 4 + 1 + zN (rest.length / 4) + t → (padL (wB rest (rest.length / 4)) (lastB rest) n).getD i 0 = [n / 4294967296 % 4294967296, n % 4294967296].getD t 0 := fun t ht => by
          unfold padL
          rw [getD_app_r (by simp [wB_len]; omega)]
          congr 1
          simp [wB_len]; omega
        rcases (by omega : i = rest.length / 4 + 1 + zN (rest.length / 4) + 0 ∨ i = rest.length / 4 + 1 + zN (rest.length / 4) + 1) with hi | hi
        · rw [e2 0 hi, show 4 * i = 4 * (rest.length / 4 + 1 + zN (rest.length / 4)) + 0 by omega, Nat.add_assoc _ 0 1, Nat.add_assoc _ 0 2, Nat.add_assoc _ 0 3, hd 0 (by omega), hd 1 (by omega), hd 2 (by omega), hd 3 (by omega)]
          simp only [List.getD_cons_zero]
          omega
        · rw [e2 1 hi, show 4 * i = 4 * (rest.length / 4 + 1 + zN (rest.length / 4)) + 4 by omega, Nat.add_assoc _ 4 1, Nat.add_assoc _ 4 2, Nat.add_assoc _ 4 3, hd 4 (by omega), hd 5 (by omega), hd 6 (by omega), hd 7 (by omega)]
          simp only [List.getD_cons_succ, List.getD_cons_zero]
          omega
/-- The document's sum of bytes is the program's. -/
theorem sumB_eq (bs : List Int) {n : Int} (hn : 0 ≤ n ∧ n < 18446744073709551616) : sumW (wB bs (bs.length / 4)) (lastB bs) n = stB (stB IVL bs (bs.length / 64)) (padB (bs.drop (64 * (bs.length / 64))) n) ((padB (bs.drop (64 * (bs.length / 64))) n).length / 64) := by
  unfold sumW
  rw [wB_len, stA_wB IVL bs (by omega), show bs.length / 4 / 16 = bs.length / 64 by omega, wB_drop bs (by omega)]
  have e : 4 * (16 * (bs.length / 64)) = 64 * (bs.length / 64) := by omega
  rw [e]
  have h1 := lastB_drop (bs := bs) (a := 16 * (bs.length / 64)) (by omega)
  rw [e] at h1
  rw [← h1, show bs.length / 4 - 16 * (bs.length / 64) = (bs.drop (64 * (bs.length / 64))).length / 4 by rw [List.length_drop]; omega]
  generalize bs.drop (64 * (bs.length / 64)) = rest
  unfold endS
  rw [padW hn, wB_len, stA_wB _ _ (by omega), show (padB rest n).length / 4 / 16 = (padB rest n).length / 64 by omega]
theorem bO_getD : ∀ (ws : List Int) (i : Nat), i < ws.length → (bO ws).getD (4 * i) 0 = ws.getD i 0 / 16777216 % 256 ∧ (bO ws).getD (4 * i + 1) 0 = ws.getD i 0 / 65536 % 256 ∧ (bO ws).getD (4 * i + 2) 0 = ws.getD i 0 / 256 % 256 ∧ (bO ws).getD (4 * i + 3) 0 = ws.getD i 0 % 256
  | [], i, h => by simp at h
  | w :: r, 0, h => by simp [bO, wrap8]
  | w :: r, i + 1, h => by
    have := bO_getD r i (by simpa using h)
    simp only [bO]
    rw [show 4 * (i + 1) = 4 * i + 4 by omega]
    simpa using this
theorem wB_bO {ws : List Int} (h : ∀ x ∈ ws, InK .u32 x) : wB (bO ws) ((bO ws).length / 4) = ws := by
  rw [bO_len, show 4 * ws.length / 4 = ws.length by omega]
  refine list_eq (wB_len _ _) fun i hi => ?_
  rw [wB_len] at hi
  obtain ⟨e1, e2, e3, e4⟩ := bO_getD ws i hi
  rw [wB_getD hi, e1, e2, e3, e4]
  have := getD_in h (by simp [InK]) i
  simp only [InK] at this
  omega
theorem bO_in (ws : List Int) : ∀ x ∈ bO ws, InK .u8 x := by
  induction ws with
  | nil => simp [bO]
  | cons w r ih =>
    intro x hx
    simp only [bO, List.mem_append, List.mem_cons, List.not_mem_nil, or_false] at hx
    rcases hx with (rfl | rfl | rfl | rfl) | hx
    · exact wrap8_in _
    · exact wrap8_in _
    · exact wrap8_in _
    · exact wrap8_in _
    · exact ih x hx
theorem sumW_bO {ws : List Int} (h : ∀ x ∈ ws, InK .u32 x) (n : Int) : sumW (wB (bO ws) ((bO ws).length / 4)) (lastB (bO ws)) n = sumW ws 2147483648 n := by
  rw [wB_bO h]
  unfold lastB
  rw [bO_len, show 4 * ws.length % 4 = 0 by omega]
  rfl
/-- The marks behind what is lent. -/
def mkW (k : Nat) : List Int := (List.range k).map fun (j : Nat) => 3237998080 + (j : Int)
theorem mkW_len (k : Nat) : (mkW k).length = k := by simp [mkW]
theorem mkW_succ (k : Nat) : mkW (k + 1) = mkW k ++ [3237998080 + (k : Int)] := by simp [mkW, List.range_succ]
theorem mkW_in (k : Nat) (hk : k ≤ 1000) : ∀ x ∈ mkW k, InK .u32 x := by
  intro x hx
  simp only [mkW, List.mem_map, List.mem_range] at hx
  obtain ⟨j, hj, rfl⟩ := hx
  simp only [InK]; omega
def mkY (k : Nat) : List Int := (List.range k).map fun (j : Nat) => IntKind.u8.wrap (192 + (j : Int))

theorem mkY_len (k : Nat) : (mkY k).length = k := by simp [mkY]
theorem mkY_succ (k : Nat) : mkY (k + 1) = mkY k ++ [IntKind.u8.wrap (192 + (k : Int))] := by simp [mkY, List.range_succ]
theorem mkY_in (k : Nat) : ∀ x ∈ mkY k, InK .u8 x := by
  intro x hx
  simp only [mkY, List.mem_map] at hx
  obtain ⟨j, _, rfl⟩ := hx
  exact wrap8_in _
/-- Are the first so many alike? -/
theorem same_step {a b : List Int} {x : Nat} (hl : a.length = b.length) (h : a.take x = b.take x) (hx : x < a.length) : ((a.getD x 0 != b.getD x 0) = false → a.take (x + 1) = b.take (x + 1)) ∧ ((a.getD x 0 != b.getD x 0) = true → (a == b) = false) := by
  have ea : a.getD x 0 = a[x] := by rw [List.getD_eq_getElem?_getD, List.getElem?_eq_getElem hx]; rfl
  have eb : b.getD x 0 = b[x]'(by omega) := by rw [List.getD_eq_getElem?_getD, List.getElem?_eq_getElem (by omega)]; rfl
  refine ⟨fun e => ?_, fun e => ?_⟩
  · rw [List.take_add_one, List.take_add_one, h, List.getElem?_eq_getElem hx, List.getElem?_eq_getElem (show x < b.length by omega)]
    simp only [bne_eq_false_iff_eq] at e
    rw [← ea, ← eb, e]
  · simp only [bne_iff_ne, ne_eq] at e
    apply beq_false_of_ne
    rintro rfl
    exact e rfl
noncomputable def pt_sh : List (Nat × (List SV → Option (List Prop × SV))) := [(21, c_RBlock), (39, c_blockAt), (40, c_ended)]
theorem pt_sh_ok : PureOK Tryd.prog (fun f => List.lookup f pt_sh) := pure_list pt_sh ⟨c_RBlock_e, c_blockAt_e, c_ended_e, trivial⟩
noncomputable abbrev cx_sh (must : Nat → Option Bool := fun _ => none) (loop : Nat → SS → Option LoopSpec := fun _ _ => none) : Ctx := ⟨tab, inl tab (fun f => List.lookup f pt_sh) fns (fun _ => {}) 1000 4, fun f => List.lookup f pt_sh, must, loop, 0, 0, fun _ => none⟩
theorem cx_sh_ok (must : Nat → Option Bool) (loop : Nat → SS → Option LoopSpec) : CxOK Tryd.prog (cx_sh must loop) := inl_ok mixed tab_ok pt_sh_ok fns_ok 4 _ _ _ _
theorem RSumBytes_ok (v : Value) (bs : List Int) (h0 : (bs.length : Int) ≤ 300000000000) (h1 : (∀ x ∈ bs, InK .u8 x)) : PureSem Tryd.prog 18 [.rd .u8 v bs] (.agg [.int .u32 ((sumW (wB bs (bs.length / 4)) (lastB bs) (8 * bs.length)).getD 0 0), .int .u32 ((sumW (wB bs (bs.length / 4)) (lastB bs) (8 * bs.length)).getD 1 0), .int .u32 ((sumW (wB bs (bs.length / 4)) (lastB bs) (8 * bs.length)).getD 2 0), .int .u32 ((sumW (wB bs (bs.length / 4)) (lastB bs) (8 * bs.length)).getD 3 0), .int .u32 ((sumW (wB bs (bs.length / 4)) (lastB bs) (8 * bs.length)).getD 4 0), .int .u32 ((sumW (wB bs (bs.length / 4)) (lastB bs) (8 * bs.length)).getD 5 0), .int .u32 ((sumW (wB bs (bs.length / 4)) (lastB bs) (8 * bs.length)).getD 6 0), .int .u32 ((sumW (wB bs (bs.length / 4)) (lastB bs) (8 * bs.length)).getD 7 0)]) := by
  refine pure_intro mixed (cx_sh_ok (fun _ => none) (fun q s => bif Nat.beq q 3 then some ⟨Nat, fun k => s.upd [] [(4, .int .i64 ((64 * k : Nat) : Int))] [(2, some ⟨23, [.int .u32 ((stB IVL bs k).getD 0 0), .int .u32 ((stB IVL bs k).getD 1 0), .int .u32 ((stB IVL bs k).getD 2 0), .int .u32 ((stB IVL bs k).getD 3 0), .int .u32 ((stB IVL bs k).getD 4 0), .int .u32 ((stB IVL bs k).getD 5 0), .int .u32 ((stB IVL bs k).getD 6 0), .int .u32 ((stB IVL bs k).getD 7 0)], 0, none⟩)], fun k => 64 * k ≤ bs.length, fun k => bs.length - 64 * k⟩ else none)) Tryd.func18 1000 rfl rfl ?_
  refine of_nf (p := ∃ (x : Nat), (((0 : Int) = ((((64 : Nat) * x) : Nat) : Int) ∧ SV.ptr (2 : Nat) (0 : Nat) = SV.ptr (2 : Nat) (0 : Nat) ∧ (SV.lit IntKind.u32 (1779033703 : Int) = SV.lit IntKind.u32 (1779033703 : Int) ∧ SV.lit IntKind.u32 (3144134277 : Int) = SV.lit IntKind.u32 (3144134277 : Int) ∧ SV.lit IntKind.u32 (1013904242 : Int) = SV.lit IntKind.u32 (1013904242 : Int) ∧ SV.lit IntKind.u32 (2773480762 : Int) = SV.lit IntKind.u32 (2773480762 : Int) ∧ SV.lit IntKind.u32 (1359893119 : Int) = SV.lit IntKind.u32 (1359893119 : Int) ∧ SV.lit IntKind.u32 (2600822924 : Int) = SV.lit IntKind.u32 (2600822924 : Int) ∧ SV.lit IntKind.u32 (528734635 : Int) = SV.lit IntKind.u32 (528734635 : Int) ∧ SV.lit IntKind.u32 (1541459225 : Int) = SV.lit IntKind.u32 (1541459225 : Int) ∧ True) ∧ SV.ptr (0 : Nat) (0 : Nat) = SV.ptr (0 : Nat) (0 : Nat) ∧ (v = v ∧ bs = bs) ∧ True) ∧ ((23 : Nat) = (23 : Nat) ∧ (0 : Nat) = (0 : Nat) ∧ SV.lit IntKind.u32 (0 : Int) = SV.lit IntKind.u32 (0 : Int) ∧ SV.lit IntKind.u32 (0 : Int) = SV.lit IntKind.u32 (0 : Int) ∧ SV.lit IntKind.u32 (0 : Int) = SV.lit IntKind.u32 (0 : Int) ∧ SV.lit IntKind.u32 (0 : Int) = SV.lit IntKind.u32 (0 : Int) ∧ SV.lit IntKind.u32 (0 : Int) = SV.lit IntKind.u32 (0 : Int) ∧ SV.lit IntKind.u32 (0 : Int) = SV.lit IntKind.u32 (0 : Int) ∧ SV.lit IntKind.u32 (0 : Int) = SV.lit IntKind.u32 (0 : Int) ∧ SV.lit IntKind.u32 (0 : Int) = SV.lit IntKind.u32 (0 : Int) ∧ True) ∧ ((23 : Nat) = (23 : Nat) ∧ (0 : Nat) = (0 : Nat) ∧ SV.lit IntKind.u32 (1779033703 : Int) = SV.lit IntKind.u32 (1779033703 : Int) ∧ SV.lit IntKind.u32 (3144134277 : Int) = SV.lit IntKind.u32 (3144134277 : Int) ∧ SV.lit IntKind.u32 (1013904242 : Int) = SV.lit IntKind.u32 (1013904242 : Int) ∧ SV.lit IntKind.u32 (2773480762 : Int) = SV.lit IntKind.u32 (2773480762 : Int) ∧ SV.lit IntKind.u32 (1359893119 : Int) = SV.lit IntKind.u32 (1359893119 : Int) ∧ SV.lit IntKind.u32 (2600822924 : Int) = SV.lit IntKind.u32 (2600822924 : Int) ∧ SV.lit IntKind.u32 (528734635 : Int) = SV.lit IntKind.u32 (528734635 : Int) ∧ SV.lit IntKind.u32 (1541459225 : Int) = SV.lit IntKind.u32 (1541459225 : Int) ∧ True) ∧ ((23 : Nat) = (23 : TypeId) ∧ (0 : Nat) = (0 : Nat) ∧ (1779033703 : Int) = (stB IVL bs x).getD (0 : Nat) (0 : Int) ∧ (3144134277 : Int) = (stB IVL bs x).getD (1 : Nat) (0 : Int) ∧ (1013904242 : Int) = (stB IVL bs x).getD (2 : Nat) (0 : Int) ∧ (2773480762 : Int) = (stB IVL bs x).getD (3 : Nat) (0 : Int) ∧ (1359893119 : Int) = (stB IVL bs x).getD (4 : Nat) (0 : Int) ∧ (2600822924 : Int) = (stB IVL bs x).getD (5 : Nat) (0 : Int) ∧ (528734635 : Int) = (stB IVL bs x).getD (6 : Nat) (0 : Int) ∧ (1541459225 : Int) = (stB IVL bs x).getD (7 : Nat) (0 : Int) ∧ True) ∧ True) ∧ ((64 : Nat) * x).le bs.length ∧ ∀ (x : Nat), ((64 : Nat) * x).le bs.length → ((-9223372036854775808 : Int) ≤ ((((64 : Nat) * x) : Nat) : Int) + (64 : Int) ∧ ((((64 : Nat) * x) : Nat) : Int) + (64 : Int) < (9223372036854775808 : Int)) ∧ (decide (((((64 : Nat) * x) : Nat) : Int) + (64 : Int) ≤ ((bs.length : Nat) : Int)) = true → (0 : Int) ≤ ((((64 : Nat) * x) : Nat) : Int) ∧ ((((64 : Nat) * x) : Nat) : Int) + (64 : Int) ≤ ((bs.length : Nat) : Int) ∧ (∀ (x : Int), x ∈ bs → (0 : Int) ≤ x ∧ x < (256 : Int)) ∧ ((bs.length : Nat) : Int) ≤ (400000000000 : Int) ∧ (16 : Nat) = (16 : Nat) ∧ ((-9223372036854775808 : Int) ≤ ((((64 : Nat) * x) : Nat) : Int) + (64 : Int) ∧ ((((64 : Nat) * x) : Nat) : Int) + (64 : Int) < (9223372036854775808 : Int)) ∧ ∃ (y : Nat), ((((((64 : Nat) * x) : Nat) : Int) + (64 : Int) = ((((64 : Nat) * y) : Nat) : Int) ∧ SV.ptr (2 : Nat) (0 : Nat) = SV.ptr (2 : Nat) (0 : Nat) ∧ (SV.lit IntKind.u32 (1779033703 : Int) = SV.lit IntKind.u32 (1779033703 : Int) ∧ SV.lit IntKind.u32 (3144134277 : Int) = SV.lit IntKind.u32 (3144134277 : Int) ∧ SV.lit IntKind.u32 (1013904242 : Int) = SV.lit IntKind.u32 (1013904242 : Int) ∧ SV.lit IntKind.u32 (2773480762 : Int) = SV.lit IntKind.u32 (2773480762 : Int) ∧ SV.lit IntKind.u32 (1359893119 : Int) = SV.lit IntKind.u32 (1359893119 : Int) ∧ SV.lit IntKind.u32 (2600822924 : Int) = SV.lit IntKind.u32 (2600822924 : Int) ∧ SV.lit IntKind.u32 (528734635 : Int) = SV.lit IntKind.u32 (528734635 : Int) ∧ SV.lit IntKind.u32 (1541459225 : Int) = SV.lit IntKind.u32 (1541459225 : Int) ∧ True) ∧ SV.ptr (0 : Nat) (0 : Nat) = SV.ptr (0 : Nat) (0 : Nat) ∧ (v = v ∧ bs = bs) ∧ True) ∧ ((23 : Nat) = (23 : Nat) ∧ (0 : Nat) = (0 : Nat) ∧ SV.lit IntKind.u32 (0 : Int) = SV.lit IntKind.u32 (0 : Int) ∧ SV.lit IntKind.u32 (0 : Int) = SV.lit IntKind.u32 (0 : Int) ∧ SV.lit IntKind.u32 (0 : Int) = SV.lit IntKind.u32 (0 : Int) ∧ SV.lit IntKind.u32 (0 : Int) = SV.lit IntKind.u32 (0 : Int) ∧ SV.lit IntKind.u32 (0 : Int) = SV.lit IntKind.u32 (0 : Int) ∧ SV.lit IntKind.u32 (0 : Int) = SV.lit IntKind.u32 (0 : Int) ∧ SV.lit IntKind.u32 (0 : Int) = SV.lit IntKind.u32 (0 : Int) ∧ SV.lit IntKind.u32 (0 : Int) = SV.lit IntKind.u32 (0 : Int) ∧ True) ∧ ((23 : Nat) = (23 : Nat) ∧ (0 : Nat) = (0 : Nat) ∧ SV.lit IntKind.u32 (1779033703 : Int) = SV.lit IntKind.u32 (1779033703 : Int) ∧ SV.lit IntKind.u32 (3144134277 : Int) = SV.lit IntKind.u32 (3144134277 : Int) ∧ SV.lit IntKind.u32 (1013904242 : Int) = SV.lit IntKind.u32 (1013904242 : Int) ∧ SV.lit IntKind.u32 (2773480762 : Int) = SV.lit IntKind.u32 (2773480762 : Int) ∧ SV.lit IntKind.u32 (1359893119 : Int) = SV.lit IntKind.u32 (1359893119 : Int) ∧ SV.lit IntKind.u32 (2600822924 : Int) = SV.lit IntKind.u32 (2600822924 : Int) ∧ SV.lit IntKind.u32 (528734635 : Int) = SV.lit IntKind.u32 (528734635 : Int) ∧ SV.lit IntKind.u32 (1541459225 : Int) = SV.lit IntKind.u32 (1541459225 : Int) ∧ True) ∧ (nat_lit 22 + (1 : Nat) = (23 : TypeId) ∧ (0 : Nat) = (0 : Nat) ∧ (blockS [(stB IVL bs x).getD (0 : Nat) (0 : Int), (stB IVL bs x).getD (1 : Nat) (0 : Int), (stB IVL bs x).getD (2 : Nat) (0 : Int), (stB IVL bs x).getD (3 : Nat) (0 : Int), (stB IVL bs x).getD (4 : Nat) (0 : Int), (stB IVL bs x).getD (5 : Nat) (0 : Int), (stB IVL bs x).getD (6 : Nat) (0 : Int), (stB IVL bs x).getD (7 : Nat) (0 : Int)] (wB (List.drop (((((64 : Nat) * x) : Nat) : Int)).toNat bs) (16 : Nat))).getD (0 : Nat) (0 : Int) = (stB IVL bs y).getD (0 : Nat) (0 : Int) ∧ (blockS [(stB IVL bs x).getD (0 : Nat) (0 : Int), (stB IVL bs x).getD (1 : Nat) (0 : Int), (stB IVL bs x).getD (2 : Nat) (0 : Int), (stB IVL bs x).getD (3 : Nat) (0 : Int), (stB IVL bs x).getD (4 : Nat) (0 : Int), (stB IVL bs x).getD (5 : Nat) (0 : Int), (stB IVL bs x).getD (6 : Nat) (0 : Int), (stB IVL bs x).getD (7 : Nat) (0 : Int)] (wB (List.drop (((((64 : Nat) * x) : Nat) : Int)).toNat bs) (16 : Nat))).getD (1 : Nat) (0 : Int) = (stB IVL bs y).getD (1 : Nat) (0 : Int) ∧ (blockS [(stB IVL bs x).getD (0 : Nat) (0 : Int), (stB IVL bs x).getD (1 : Nat) (0 : Int), (stB IVL bs x).getD (2 : Nat) (0 : Int), (stB IVL bs x).getD (3 : Nat) (0 : Int), (stB IVL bs x).getD (4 : Nat) (0 : Int), (stB IVL bs x).getD (5 : Nat) (0 : Int), (stB IVL bs x).getD (6 : Nat) (0 : Int), (stB IVL bs x).getD (7 : Nat) (0 : Int)] (wB (List.drop (((((64 : Nat) * x) : Nat) : Int)).toNat bs) (16 : Nat))).getD (2 : Nat) (0 : Int) = (stB IVL bs y).getD (2 : Nat) (0 : Int) ∧ (blockS [(stB IVL bs x).getD (0 : Nat) (0 : Int), (stB IVL bs x).getD (1 : Nat) (0 : Int), (stB IVL bs x).getD (2 : Nat) (0 : Int), (stB IVL bs x).getD (3 : Nat) (0 : Int), (stB IVL bs x).getD (4 : Nat) (0 : Int), (stB IVL bs x).getD (5 : Nat) (0 : Int), (stB IVL bs x).getD (6 : Nat) (0 : Int), (stB IVL bs x).getD (7 : Nat) (0 : Int)] (wB (List.drop (((((64 : Nat) * x) : Nat) : Int)).toNat bs) (16 : Nat))).getD (3 : Nat) (0 : Int) = (stB IVL bs y).getD (3 : Nat) (0 : Int) ∧ (blockS [(stB IVL bs x).getD (0 : Nat) (0 : Int), (stB IVL bs x).getD (1 : Nat) (0 : Int), (stB IVL bs x).getD (2 : Nat) (0 : Int), (stB IVL bs x).getD (3 : Nat) (0 : Int), (stB IVL bs x).getD (4 : Nat) (0 : Int), (stB IVL bs x).getD (5 : Nat) (0 : Int), (stB IVL bs x).getD (6 : Nat) (0 : Int), (stB IVL bs x).getD (7 : Nat) (0 : Int)] (wB (List.drop (((((64 : Nat) * x) : Nat) : Int)).toNat bs) (16 : Nat))).getD (4 : Nat) (0 : Int) = (stB IVL bs y).getD (4 : Nat) (0 : Int) ∧ (blockS [(stB IVL bs x).getD (0 : Nat) (0 : Int), (stB IVL bs x).getD (1 : Nat) (0 : Int), (stB IVL bs x).getD (2 : Nat) (0 : Int), (stB IVL bs x).getD (3 : Nat) (0 : Int), (stB IVL bs x).getD (4 : Nat) (0 : Int), (stB IVL bs x).getD (5 : Nat) (0 : Int), (stB IVL bs x).getD (6 : Nat) (0 : Int), (stB IVL bs x).getD (7 : Nat) (0 : Int)] (wB (List.drop (((((64 : Nat) * x) : Nat) : Int)).toNat bs) (16 : Nat))).getD (5 : Nat) (0 : Int) = (stB IVL bs y).getD (5 : Nat) (0 : Int) ∧ (blockS [(stB IVL bs x).getD (0 : Nat) (0 : Int), (stB IVL bs x).getD (1 : Nat) (0 : Int), (stB IVL bs x).getD (2 : Nat) (0 : Int), (stB IVL bs x).getD (3 : Nat) (0 : Int), (stB IVL bs x).getD (4 : Nat) (0 : Int), (stB IVL bs x).getD (5 : Nat) (0 : Int), (stB IVL bs x).getD (6 : Nat) (0 : Int), (stB IVL bs x).getD (7 : Nat) (0 : Int)] (wB (List.drop (((((64 : Nat) * x) : Nat) : Int)).toNat bs) (16 : Nat))).getD (6 : Nat) (0 : Int) = (stB IVL bs y).getD (6 : Nat) (0 : Int) ∧ (blockS [(stB IVL bs x).getD (0 : Nat) (0 : Int), (stB IVL bs x).getD (1 : Nat) (0 : Int), (stB IVL bs x).getD (2 : Nat) (0 : Int), (stB IVL bs x).getD (3 : Nat) (0 : Int), (stB IVL bs x).getD (4 : Nat) (0 : Int), (stB IVL bs x).getD (5 : Nat) (0 : Int), (stB IVL bs x).getD (6 : Nat) (0 : Int), (stB IVL bs x).getD (7 : Nat) (0 : Int)] (wB (List.drop (((((64 : Nat) * x) : Nat) : Int)).toNat bs) (16 : Nat))).getD (7 : Nat) (0 : Int) = (stB IVL bs y).getD (7 : Nat) (0 : Int) ∧ True) ∧ True) ∧ ((64 : Nat) * y).le bs.length ∧ bs.length - (64 : Nat) * y < bs.length - (64 : Nat) * x) ∧ (decide (((((64 : Nat) * x) : Nat) : Int) + (64 : Int) ≤ ((bs.length : Nat) : Int)) = false → (0 : Int) ≤ ((((64 : Nat) * x) : Nat) : Int) ∧ ((((64 : Nat) * x) : Nat) : Int) ≤ ((bs.length : Nat) : Int) ∧ ((bs.length : Nat) : Int) ≤ ((bs.length : Nat) : Int) ∧ (∀ (x_1 : Int), x_1 ∈ List.take (((bs.length : Nat) : Int) - ((((64 : Nat) * x) : Nat) : Int)).toNat (List.drop (((((64 : Nat) * x) : Nat) : Int)).toNat bs) → (0 : Int) ≤ x_1 ∧ x_1 < (256 : Int)) ∧ (List.take (((bs.length : Nat) : Int) - ((((64 : Nat) * x) : Nat) : Int)).toNat (List.drop (((((64 : Nat) * x) : Nat) : Int)).toNat bs)).length < (64 : Nat) ∧ ((0 : Int) ≤ (8 : Int) * IntKind.u64.wrap ((bs.length : Nat) : Int) ∧ (8 : Int) * IntKind.u64.wrap ((bs.length : Nat) : Int) < (18446744073709551616 : Int)) ∧ ((0 : Int) ≤ IntKind.u64.wrap ((bs.length : Nat) : Int) ∧ IntKind.u64.wrap ((bs.length : Nat) : Int) < (18446744073709551616 : Int)) ∧ (stB [(stB IVL bs x).getD (0 : Nat) (0 : Int), (stB IVL bs x).getD (1 : Nat) (0 : Int), (stB IVL bs x).getD (2 : Nat) (0 : Int), (stB IVL bs x).getD (3 : Nat) (0 : Int), (stB IVL bs x).getD (4 : Nat) (0 : Int), (stB IVL bs x).getD (5 : Nat) (0 : Int), (stB IVL bs x).getD (6 : Nat) (0 : Int), (stB IVL bs x).getD (7 : Nat) (0 : Int)] (padB (List.take (((bs.length : Nat) : Int) - ((((64 : Nat) * x) : Nat) : Int)).toNat (List.drop (((((64 : Nat) * x) : Nat) : Int)).toNat bs)) ((8 : Int) * IntKind.u64.wrap ((bs.length : Nat) : Int))) ((padB (List.take (((bs.length : Nat) : Int) - ((((64 : Nat) * x) : Nat) : Int)).toNat (List.drop (((((64 : Nat) * x) : Nat) : Int)).toNat bs)) ((8 : Int) * IntKind.u64.wrap ((bs.length : Nat) : Int))).length / (64 : Nat))).getD (0 : Nat) (0 : Int) = (sumW (wB bs (bs.length / (4 : Nat))) (lastB bs) ((8 : Int) * ((bs.length : Nat) : Int))).getD (0 : Nat) (0 : Int) ∧ (stB [(stB IVL bs x).getD (0 : Nat) (0 : Int), (stB IVL bs x).getD (1 : Nat) (0 : Int), (stB IVL bs x).getD (2 : Nat) (0 : Int), (stB IVL bs x).getD (3 : Nat) (0 : Int), (stB IVL bs x).getD (4 : Nat) (0 : Int), (stB IVL bs x).getD (5 : Nat) (0 : Int), (stB IVL bs x).getD (6 : Nat) (0 : Int), (stB IVL bs x).getD (7 : Nat) (0 : Int)] (padB (List.take (((bs.length : Nat) : Int) - ((((64 : Nat) * x) : Nat) : Int)).toNat (List.drop (((((64 : Nat) * x) : Nat) : Int)).toNat bs)) ((8 : Int) * IntKind.u64.wrap ((bs.length : Nat) : Int))) ((padB (List.take (((bs.length : Nat) : Int) - ((((64 : Nat) * x) : Nat) : Int)).toNat (List.drop (((((64 : Nat) * x) : Nat) : Int)).toNat bs)) ((8 : Int) * IntKind.u64.wrap ((bs.length : Nat) : Int))).length / (64 : Nat))).getD (1 : Nat) (0 : Int) = (sumW (wB bs (bs.length / (4 : Nat))) (lastB bs) ((8 : Int) * ((bs.length : Nat) : Int))).getD (1 : Nat) (0 : Int) ∧ (stB [(stB IVL bs x).getD (0 : Nat) (0 : Int), (stB IVL bs x).getD (1 : Nat) (0 : Int), (stB IVL bs x).getD (2 : Nat) (0 : Int), (stB IVL bs x).getD (3 : Nat) (0 : Int), (stB IVL bs x).getD (4 : Nat) (0 : Int), (stB IVL bs x).getD (5 : Nat) (0 : Int), (stB IVL bs x).getD (6 : Nat) (0 : Int), (stB IVL bs x).getD (7 : Nat) (0 : Int)] (padB (List.take (((bs.length : Nat) : Int) - ((((64 : Nat) * x) : Nat) : Int)).toNat (List.drop (((((64 : Nat) * x) : Nat) : Int)).toNat bs)) ((8 : Int) * IntKind.u64.wrap ((bs.length : Nat) : Int))) ((padB (List.take (((bs.length : Nat) : Int) - ((((64 : Nat) * x) : Nat) : Int)).toNat (List.drop (((((64 : Nat) * x) : Nat) : Int)).toNat bs)) ((8 : Int) * IntKind.u64.wrap ((bs.length : Nat) : Int))).length / (64 : Nat))).getD (2 : Nat) (0 : Int) = (sumW (wB bs (bs.length / (4 : Nat))) (lastB bs) ((8 : Int) * ((bs.length : Nat) : Int))).getD (2 : Nat) (0 : Int) ∧ (stB [(stB IVL bs x).getD (0 : Nat) (0 : Int), (stB IVL bs x).getD (1 : Nat) (0 : Int), (stB IVL bs x).getD (2 : Nat) (0 : Int), (stB IVL bs x).getD (3 : Nat) (0 : Int), (stB IVL bs x).getD (4 : Nat) (0 : Int), (stB IVL bs x).getD (5 : Nat) (0 : Int), (stB IVL bs x).getD (6 : Nat) (0 : Int), (stB IVL bs x).getD (7 : Nat) (0 : Int)] (padB (List.take (((bs.length : Nat) : Int) - ((((64 : Nat) * x) : Nat) : Int)).toNat (List.drop (((((64 : Nat) * x) : Nat) : Int)).toNat bs)) ((8 : Int) * IntKind.u64.wrap ((bs.length : Nat) : Int))) ((padB (List.take (((bs.length : Nat) : Int) - ((((64 : Nat) * x) : Nat) : Int)).toNat (List.drop (((((64 : Nat) * x) : Nat) : Int)).toNat bs)) ((8 : Int) * IntKind.u64.wrap ((bs.length : Nat) : Int))).length / (64 : Nat))).getD (3 : Nat) (0 : Int) = (sumW (wB bs (bs.length / (4 : Nat))) (lastB bs) ((8 : Int) * ((bs.length : Nat) : Int))).getD (3 : Nat) (0 : Int) ∧ (stB [(stB IVL bs x).getD (0 : Nat) (0 : Int), (stB IVL bs x).getD (1 : Nat) (0 : Int), (stB IVL bs x).getD (2 : Nat) (0 : Int), (stB IVL bs x).getD (3 : Nat) (0 : Int), (stB IVL bs x).getD (4 : Nat) (0 : Int), (stB IVL bs x).getD (5 : Nat) (0 : Int), (stB IVL bs x).getD (6 : Nat) (0 : Int), (stB IVL bs x).getD (7 : Nat) (0 : Int)] (padB (List.take (((bs.length : Nat) : Int) - ((((64 : Nat) * x) : Nat) : Int)).toNat (List.drop (((((64 : Nat) * x) : Nat) : Int)).toNat bs)) ((8 : Int) * IntKind.u64.wrap ((bs.length : Nat) : Int))) ((padB (List.take (((bs.length : Nat) : Int) - ((((64 : Nat) * x) : Nat) : Int)).toNat (List.drop (((((64 : Nat) * x) : Nat) : Int)).toNat bs)) ((8 : Int) * IntKind.u64.wrap ((bs.length : Nat) : Int))).length / (64 : Nat))).getD (4 : Nat) (0 : Int) = (sumW (wB bs (bs.length / (4 : Nat))) (lastB bs) ((8 : Int) * ((bs.length : Nat) : Int))).getD (4 : Nat) (0 : Int) ∧ (stB [(stB IVL bs x).getD (0 : Nat) (0 : Int), (stB IVL bs x).getD (1 : Nat) (0 : Int), (stB IVL bs x).getD (2 : Nat) (0 : Int), (stB IVL bs x).getD (3 : Nat) (0 : Int), (stB IVL bs x).getD (4 : Nat) (0 : Int), (stB IVL bs x).getD (5 : Nat) (0 : Int), (stB IVL bs x).getD (6 : Nat) (0 : Int), (stB IVL bs x).getD (7 : Nat) (0 : Int)] (padB (List.take (((bs.length : Nat) : Int) - ((((64 : Nat) * x) : Nat) : Int)).toNat (List.drop (((((64 : Nat) * x) : Nat) : Int)).toNat bs)) ((8 : Int) * IntKind.u64.wrap ((bs.length : Nat) : Int))) ((padB (List.take (((bs.length : Nat) : Int) - ((((64 : Nat) * x) : Nat) : Int)).toNat (List.drop (((((64 : Nat) * x) : Nat) : Int)).toNat bs)) ((8 : Int) * IntKind.u64.wrap ((bs.length : Nat) : Int))).length / (64 : Nat))).getD (5 : Nat) (0 : Int) = (sumW (wB bs (bs.length / (4 : Nat))) (lastB bs) ((8 : Int) * ((bs.length : Nat) : Int))).getD (5 : Nat) (0 : Int) ∧ (stB [(stB IVL bs x).getD (0 : Nat) (0 : Int), (stB IVL bs x).getD (1 : Nat) (0 : Int), (stB IVL bs x).getD (2 : Nat) (0 : Int), (stB IVL bs x).getD (3 : Nat) (0 : Int), (stB IVL bs x).getD (4 : Nat) (0 : Int), (stB IVL bs x).getD (5 : Nat) (0 : Int), (stB IVL bs x).getD (6 : Nat) (0 : Int), (stB IVL bs x).getD (7 : Nat) (0 : Int)] (padB (List.take (((bs.length : Nat) : Int) - ((((64 : Nat) * x) : Nat) : Int)).toNat (List.drop (((((64 : Nat) * x) : Nat) : Int)).toNat bs)) ((8 : Int) * IntKind.u64.wrap ((bs.length : Nat) : Int))) ((padB (List.take (((bs.length : Nat) : Int) - ((((64 : Nat) * x) : Nat) : Int)).toNat (List.drop (((((64 : Nat) * x) : Nat) : Int)).toNat bs)) ((8 : Int) * IntKind.u64.wrap ((bs.length : Nat) : Int))).length / (64 : Nat))).getD (6 : Nat) (0 : Int) = (sumW (wB bs (bs.length / (4 : Nat))) (lastB bs) ((8 : Int) * ((bs.length : Nat) : Int))).getD (6 : Nat) (0 : Int) ∧ (stB [(stB IVL bs x).getD (0 : Nat) (0 : Int), (stB IVL bs x).getD (1 : Nat) (0 : Int), (stB IVL bs x).getD (2 : Nat) (0 : Int), (stB IVL bs x).getD (3 : Nat) (0 : Int), (stB IVL bs x).getD (4 : Nat) (0 : Int), (stB IVL bs x).getD (5 : Nat) (0 : Int), (stB IVL bs x).getD (6 : Nat) (0 : Int), (stB IVL bs x).getD (7 : Nat) (0 : Int)] (padB (List.take (((bs.length : Nat) : Int) - ((((64 : Nat) * x) : Nat) : Int)).toNat (List.drop (((((64 : Nat) * x) : Nat) : Int)).toNat bs)) ((8 : Int) * IntKind.u64.wrap ((bs.length : Nat) : Int))) ((padB (List.take (((bs.length : Nat) : Int) - ((((64 : Nat) * x) : Nat) : Int)).toNat (List.drop (((((64 : Nat) * x) : Nat) : Int)).toNat bs)) ((8 : Int) * IntKind.u64.wrap ((bs.length : Nat) : Int))).length / (64 : Nat))).getD (7 : Nat) (0 : Int) = (sumW (wB bs (bs.length / (4 : Nat))) (lastB bs) ((8 : Int) * ((bs.length : Nat) : Int))).getD (7 : Nat) (0 : Int) ∧ True)) (by kernel_rfl) ?_
  have s8 := fun x => stB_8 (st := IVL) (bs := bs) rfl x
  refine ⟨0, ?_, Nat.zero_le _, fun x hx => ⟨⟨by have hx : 64 * x ≤ bs.length := hx; omega, by have hx : 64 * x ≤ bs.length := hx; omega⟩, fun hlt => ?_, fun hge => ?_⟩⟩
  · repeat' (first | with_reducible rfl | exact True.intro | apply And.intro | (intro _h; cases _h; done) | exact OwnSame.mk fun _ => rfl | exact OwnSameE.mk fun _ => rfl | intro _h | apply pieceEq)
    all_goals (first | exact True.intro | omega | rfl)
  · have hx : 64 * x ≤ bs.length := hx
    have hlt : 64 * x + 64 ≤ bs.length := by have := of_decide_eq_true hlt; omega
    have key : stB IVL bs (x + 1) = blockS (stB IVL bs x) (wB (bs.drop (64 * x)) 16) := rfl
    have e1 : ((64 * x : Nat) : Int).toNat = 64 * x := Int.toNat_natCast _
    simp only [e1, s8]
    repeat' (first | with_reducible rfl | exact True.intro | apply And.intro | (intro _h; cases _h; done) | exact OwnSame.mk fun _ => rfl | exact OwnSameE.mk fun _ => rfl | intro _h | apply pieceEq)
    all_goals (first | exact True.intro | omega | exact (h1 _ (by assumption)).1 | exact (h1 _ (by assumption)).2 | exact wB_len _ _ | skip)
    refine ⟨x + 1, ?_⟩
    repeat' (first | with_reducible rfl | exact True.intro | apply And.intro | (intro _h; cases _h; done) | exact OwnSame.mk fun _ => rfl | exact OwnSameE.mk fun _ => rfl | intro _h | apply pieceEq)
    all_goals (first | exact True.intro | omega | (rw [key]; done) | (show (64 * (x + 1) : Nat) ≤ _; omega))
  · have hx : 64 * x ≤ bs.length := hx
    have hge : ¬ 64 * x + 64 ≤ bs.length := by intro h; have := of_decide_eq_false hge; omega
    obtain rfl : x = bs.length / 64 := by omega
    have e1 : ((64 * (bs.length / 64) : Nat) : Int).toNat = 64 * (bs.length / 64) := Int.toNat_natCast _
    have e2 : List.take ((bs.length : Int) - ((64 * (bs.length / 64) : Nat) : Int)).toNat (List.drop (64 * (bs.length / 64)) bs) = bs.drop (64 * (bs.length / 64)) := List.take_of_length_le (by rw [List.length_drop]; omega)
    have e3 : IntKind.u64.wrap (bs.length : Int) = bs.length := w_u64 (by omega)
    have hs := sumB_eq bs (n := 8 * bs.length) (by omega)
    simp only [e1, e2, e3, s8, hs]
    repeat' (first | with_reducible rfl | exact True.intro | apply And.intro | (intro _h; cases _h; done) | exact OwnSame.mk fun _ => rfl | exact OwnSameE.mk fun _ => rfl | intro _h | apply pieceEq)
    all_goals (first | exact True.intro | omega | exact (h1 _ (List.mem_of_mem_drop (by assumption))).1 | exact (h1 _ (List.mem_of_mem_drop (by assumption))).2 | (rw [List.length_drop]; omega))
def c_RSumBytes : List SV → Option (List Prop × SV)
  | [.rd .u8 v bs] => some ([(bs.length : Int) ≤ 300000000000, (∀ x ∈ bs, InK .u8 x)], .agg [.int .u32 ((sumW (wB bs (bs.length / 4)) (lastB bs) (8 * bs.length)).getD 0 0), .int .u32 ((sumW (wB bs (bs.length / 4)) (lastB bs) (8 * bs.length)).getD 1 0), .int .u32 ((sumW (wB bs (bs.length / 4)) (lastB bs) (8 * bs.length)).getD 2 0), .int .u32 ((sumW (wB bs (bs.length / 4)) (lastB bs) (8 * bs.length)).getD 3 0), .int .u32 ((sumW (wB bs (bs.length / 4)) (lastB bs) (8 * bs.length)).getD 4 0), .int .u32 ((sumW (wB bs (bs.length / 4)) (lastB bs) (8 * bs.length)).getD 5 0), .int .u32 ((sumW (wB bs (bs.length / 4)) (lastB bs) (8 * bs.length)).getD 6 0), .int .u32 ((sumW (wB bs (bs.length / 4)) (lastB bs) (8 * bs.length)).getD 7 0)])
  | _ => none
theorem c_RSumBytes_e : PEntry Tryd.prog 18 c_RSumBytes := by
  refine ⟨callFunc_ok Tryd.func18 (by kernel_rfl) (by kernel_rfl), fun args ps v h hp => ?_⟩
  unfold c_RSumBytes at h
  split at h
  · cases h; exact RSumBytes_ok _ _ (hp _ (List.mem_of_getElem? (i := 0) rfl)) (hp _ (List.mem_of_getElem? (i := 1) rfl))
  · cases h
noncomputable def pt_si : List (Nat × (List SV → Option (List Prop × SV))) := [(21, c_RBlock), (39, c_blockAt), (40, c_ended), (18, c_RSumBytes)]
theorem pt_si_ok : PureOK Tryd.prog (fun f => List.lookup f pt_si) := pure_list pt_si ⟨c_RBlock_e, c_blockAt_e, c_ended_e, c_RSumBytes_e, trivial⟩
noncomputable def et_si : List (Nat × ECon) := [(38, c_RbytesOf)]
theorem et_si_ok : ConOK Tryd.prog (fun f => List.lookup f et_si) := con_list et_si ⟨c_RbytesOf_e, trivial⟩
noncomputable abbrev cx_si (must : Nat → Option Bool := fun _ => none) (loop : Nat → SS → Option LoopSpec := fun _ _ => none) : Ctx := ⟨tab, inlC tab (fun f => List.lookup f pt_si) (fun f => List.lookup f et_si) fns (fun _ => {}) 1000 4, fun f => List.lookup f pt_si, must, loop, 0, 0, fun f => List.lookup f et_si⟩
theorem cx_si_ok (must : Nat → Option Bool) (loop : Nat → SS → Option LoopSpec) : CxOK Tryd.prog (cx_si must loop) := inlC_ok mixed tab_ok pt_si_ok et_si_ok fns_ok 4 _ _ _ _
theorem RSum_ok (v : Value) (ws : List Int) (h0 : (ws.length : Int) ≤ 15000000000) (h1 : (∀ x ∈ ws, InK .u32 x)) : PureSem Tryd.prog 17 [.rd .u32 v ws] (.agg [.int .u32 ((sumW ws 2147483648 (32 * ws.length)).getD 0 0), .int .u32 ((sumW ws 2147483648 (32 * ws.length)).getD 1 0), .int .u32 ((sumW ws 2147483648 (32 * ws.length)).getD 2 0), .int .u32 ((sumW ws 2147483648 (32 * ws.length)).getD 3 0), .int .u32 ((sumW ws 2147483648 (32 * ws.length)).getD 4 0), .int .u32 ((sumW ws 2147483648 (32 * ws.length)).getD 5 0), .int .u32 ((sumW ws 2147483648 (32 * ws.length)).getD 6 0), .int .u32 ((sumW ws 2147483648 (32 * ws.length)).getD 7 0)]) := by
  refine pure_intro mixed (cx_si_ok (fun _ => none) (fun _ _ => none)) Tryd.func17 1000 rfl rfl ?_
  refine of_nf (p := (∀ (x : Int), x ∈ ws → (0 : Int) ≤ x ∧ x < (4294967296 : Int)) ∧ ((ws.length : Nat) : Int) ≤ (15000000000 : Int) ∧ OwnSame c_RSumBytes [true] [SV.rd IntKind.u8 undef (List.take ((4 : Nat) * ws.length) (List.drop (0 : Nat) (bO ws)))] ∧ (0 : Nat) + (4 : Nat) * ws.length ≤ (4 : Nat) * ws.length ∧ (bO ws).length = (4 : Nat) * ws.length ∧ (((List.take ((4 : Nat) * ws.length) (List.drop (0 : Nat) (bO ws))).length : Nat) : Int) ≤ (300000000000 : Int) ∧ (∀ (x : Int), x ∈ List.take ((4 : Nat) * ws.length) (List.drop (0 : Nat) (bO ws)) → (0 : Int) ≤ x ∧ x < (256 : Int)) ∧ (sumW (wB (List.take ((4 : Nat) * ws.length) (List.drop (0 : Nat) (bO ws))) ((List.take ((4 : Nat) * ws.length) (List.drop (0 : Nat) (bO ws))).length / (4 : Nat))) (lastB (List.take ((4 : Nat) * ws.length) (List.drop (0 : Nat) (bO ws)))) ((8 : Int) * (((List.take ((4 : Nat) * ws.length) (List.drop (0 : Nat) (bO ws))).length : Nat) : Int))).getD (0 : Nat) (0 : Int) = (sumW ws (2147483648 : Int) ((32 : Int) * ((ws.length : Nat) : Int))).getD (0 : Nat) (0 : Int) ∧ (sumW (wB (List.take ((4 : Nat) * ws.length) (List.drop (0 : Nat) (bO ws))) ((List.take ((4 : Nat) * ws.length) (List.drop (0 : Nat) (bO ws))).length / (4 : Nat))) (lastB (List.take ((4 : Nat) * ws.length) (List.drop (0 : Nat) (bO ws)))) ((8 : Int) * (((List.take ((4 : Nat) * ws.length) (List.drop (0 : Nat) (bO ws))).length : Nat) : Int))).getD (1 : Nat) (0 : Int) = (sumW ws (2147483648 : Int) ((32 : Int) * ((ws.length : Nat) : Int))).getD (1 : Nat) (0 : Int) ∧ (sumW (wB (List.take ((4 : Nat) * ws.length) (List.drop (0 : Nat) (bO ws))) ((List.take ((4 : Nat) * ws.length) (List.drop (0 : Nat) (bO ws))).length / (4 : Nat))) (lastB (List.take ((4 : Nat) * ws.length) (List.drop (0 : Nat) (bO ws)))) ((8 : Int) * (((List.take ((4 : Nat) * ws.length) (List.drop (0 : Nat) (bO ws))).length : Nat) : Int))).getD (2 : Nat) (0 : Int) = (sumW ws (2147483648 : Int) ((32 : Int) * ((ws.length : Nat) : Int))).getD (2 : Nat) (0 : Int) ∧ (sumW (wB (List.take ((4 : Nat) * ws.length) (List.drop (0 : Nat) (bO ws))) ((List.take ((4 : Nat) * ws.length) (List.drop (0 : Nat) (bO ws))).length / (4 : Nat))) (lastB (List.take ((4 : Nat) * ws.length) (List.drop (0 : Nat) (bO ws)))) ((8 : Int) * (((List.take ((4 : Nat) * ws.length) (List.drop (0 : Nat) (bO ws))).length : Nat) : Int))).getD (3 : Nat) (0 : Int) = (sumW ws (2147483648 : Int) ((32 : Int) * ((ws.length : Nat) : Int))).getD (3 : Nat) (0 : Int) ∧ (sumW (wB (List.take ((4 : Nat) * ws.length) (List.drop (0 : Nat) (bO ws))) ((List.take ((4 : Nat) * ws.length) (List.drop (0 : Nat) (bO ws))).length / (4 : Nat))) (lastB (List.take ((4 : Nat) * ws.length) (List.drop (0 : Nat) (bO ws)))) ((8 : Int) * (((List.take ((4 : Nat) * ws.length) (List.drop (0 : Nat) (bO ws))).length : Nat) : Int))).getD (4 : Nat) (0 : Int) = (sumW ws (2147483648 : Int) ((32 : Int) * ((ws.length : Nat) : Int))).getD (4 : Nat) (0 : Int) ∧ (sumW (wB (List.take ((4 : Nat) * ws.length) (List.drop (0 : Nat) (bO ws))) ((List.take ((4 : Nat) * ws.length) (List.drop (0 : Nat) (bO ws))).length / (4 : Nat))) (lastB (List.take ((4 : Nat) * ws.length) (List.drop (0 : Nat) (bO ws)))) ((8 : Int) * (((List.take ((4 : Nat) * ws.length) (List.drop (0 : Nat) (bO ws))).length : Nat) : Int))).getD (5 : Nat) (0 : Int) = (sumW ws (2147483648 : Int) ((32 : Int) * ((ws.length : Nat) : Int))).getD (5 : Nat) (0 : Int) ∧ (sumW (wB (List.take ((4 : Nat) * ws.length) (List.drop (0 : Nat) (bO ws))) ((List.take ((4 : Nat) * ws.length) (List.drop (0 : Nat) (bO ws))).length / (4 : Nat))) (lastB (List.take ((4 : Nat) * ws.length) (List.drop (0 : Nat) (bO ws)))) ((8 : Int) * (((List.take ((4 : Nat) * ws.length) (List.drop (0 : Nat) (bO ws))).length : Nat) : Int))).getD (6 : Nat) (0 : Int) = (sumW ws (2147483648 : Int) ((32 : Int) * ((ws.length : Nat) : Int))).getD (6 : Nat) (0 : Int) ∧ (sumW (wB (List.take ((4 : Nat) * ws.length) (List.drop (0 : Nat) (bO ws))) ((List.take ((4 : Nat) * ws.length) (List.drop (0 : Nat) (bO ws))).length / (4 : Nat))) (lastB (List.take ((4 : Nat) * ws.length) (List.drop (0 : Nat) (bO ws)))) ((8 : Int) * (((List.take ((4 : Nat) * ws.length) (List.drop (0 : Nat) (bO ws))).length : Nat) : Int))).getD (7 : Nat) (0 : Int) = (sumW ws (2147483648 : Int) ((32 : Int) * ((ws.length : Nat) : Int))).getD (7 : Nat) (0 : Int) ∧ True) (by kernel_rfl) ?_
  have e1 : List.take (4 * ws.length) (List.drop 0 (bO ws)) = bO ws := by rw [List.drop_zero]; exact List.take_of_length_le (by rw [bO_len]; exact Nat.le_refl _)
  have hb := bO_in ws
  have hL := bO_len ws
  have hs := sumW_bO h1 (32 * ws.length)
  have e4 : (8 : Int) * (bO ws).length = 32 * ws.length := by rw [hL]; omega
  repeat' (first | with_reducible rfl | exact True.intro | apply And.intro | (intro _h; cases _h; done) | exact OwnSame.mk fun _ => rfl | exact OwnSameE.mk fun _ => rfl | intro _h | apply pieceEq)
  all_goals (try simp only [e1, e4, hs] at *)
  all_goals (first | exact True.intro | omega | (exact (h1 _ (by assumption)).1) | (exact (h1 _ (by assumption)).2) | (exact (hb _ (by assumption)).1) | (exact (hb _ (by assumption)).2))
def c_RSum : List SV → Option (List Prop × SV)
  | [.rd .u32 v ws] => some ([(ws.length : Int) ≤ 15000000000, (∀ x ∈ ws, InK .u32 x)], .agg [.int .u32 ((sumW ws 2147483648 (32 * ws.length)).getD 0 0), .int .u32 ((sumW ws 2147483648 (32 * ws.length)).getD 1 0), .int .u32 ((sumW ws 2147483648 (32 * ws.length)).getD 2 0), .int .u32 ((sumW ws 2147483648 (32 * ws.length)).getD 3 0), .int .u32 ((sumW ws 2147483648 (32 * ws.length)).getD 4 0), .int .u32 ((sumW ws 2147483648 (32 * ws.length)).getD 5 0), .int .u32 ((sumW ws 2147483648 (32 * ws.length)).getD 6 0), .int .u32 ((sumW ws 2147483648 (32 * ws.length)).getD 7 0)])
  | _ => none
theorem c_RSum_e : PEntry Tryd.prog 17 c_RSum := by
  refine ⟨callFunc_ok Tryd.func17 (by kernel_rfl) (by kernel_rfl), fun args ps v h hp => ?_⟩
  unfold c_RSum at h
  split at h
  · cases h; exact RSum_ok _ _ (hp _ (List.mem_of_getElem? (i := 0) rfl)) (hp _ (List.mem_of_getElem? (i := 1) rfl))
  · cases h
theorem lent_ok (v : Value) (ws : List Int) (h0 : (ws.length : Int) ≤ 60000000000) : SemCall Tryd.prog 13 [.rd .u32 v ws] [] (AltK [⟨none, .on 0 (ws.length + 120) true, [some ⟨22, [.ints .u32 (ws.length + 120) (ws ++ mkW 120)], 1, none⟩]⟩]) := by
  refine con_intro mixed (cx_sf_ok (fun _ => none) (fun q s => bif Nat.beq q 4 then some ⟨Nat, fun k => ⟨[(0, .rd .u32 v ws), (3, .on 0 (ws.length + k) true), (4, .int .i64 k)], [some ⟨22, [.ints .u32 (ws.length + k) (ws ++ mkW k)], 1, none⟩]⟩, fun k => k ≤ 120, fun k => 120 - k⟩ else none)) Tryd.func13 1000 ?_
  refine of_nf (p := ws.length ≤ (68719476736 : Nat) ∧ ∃ (x : Nat), (((v = v ∧ ws = ws) ∧ (ws.length = ws.length + x ∧ true = true) ∧ (0 : Int) = ((x : Nat) : Int) ∧ True) ∧ (nat_lit 21 + (1 : Nat) = (22 : TypeId) ∧ nat_lit 0 + (1 : Nat) = (1 : Nat) ∧ @Bool.rec (fun _ => Prop) False (ws = ws.append (mkW x)) (true && ws.length.beq (ws.length + x)) ∧ True) ∧ True) ∧ x.le (120 : Nat) ∧ ∀ (x : Nat), x.le (120 : Nat) → (decide (((x : Nat) : Int) < (120 : Int)) = true → ws.length + x = ws.length + x ∧ (ws.append (mkW x)).length = ws.length + x ∧ ws.length + x + (1 : Nat) ≤ (68719476736 : Nat) ∧ ((-9223372036854775808 : Int) ≤ ((x : Nat) : Int) + (1 : Int) ∧ ((x : Nat) : Int) + (1 : Int) < (9223372036854775808 : Int)) ∧ ∃ (y : Nat), (((v = v ∧ ws = ws) ∧ (ws.length + x + (1 : Nat) = ws.length + y ∧ true = true) ∧ ((x : Nat) : Int) + (1 : Int) = ((y : Nat) : Int) ∧ True) ∧ (nat_lit 21 + (1 : Nat) = (22 : TypeId) ∧ nat_lit 0 + (1 : Nat) = (1 : Nat) ∧ @Bool.rec (fun _ => Prop) False ((ws.append (mkW x)).append [IntKind.u32.wrap ((3237998080 : Int) + IntKind.u32.wrap ((x : Nat) : Int))] = ws.append (mkW y)) (true && (ws.length + x + (1 : Nat)).beq (ws.length + y)) ∧ True) ∧ True) ∧ y.le (120 : Nat) ∧ (120 : Nat) - y < (120 : Nat) - x) ∧ (decide (((x : Nat) : Int) < (120 : Int)) = false → ((ws.length + x = ws.length + (120 : Nat) ∧ true = true) ∧ True) ∧ ((22 : TypeId) = (22 : TypeId) ∧ (1 : Nat) = (1 : Nat) ∧ @Bool.rec (fun _ => Prop) False (ws.append (mkW x) = ws.append (mkW (120 : Nat))) (true && (ws.length + x).beq (ws.length + (120 : Nat))) ∧ True) ∧ True)) (by kernel_rfl) ?_
  refine ⟨by omega, 0, ?_, Nat.zero_le _, fun x hx => ⟨fun hlt => ?_, fun hge => ?_⟩⟩
  · repeat' (first | with_reducible rfl | exact True.intro | apply And.intro | (intro _h; cases _h; done) | exact OwnSame.mk fun _ => rfl | exact OwnSameE.mk fun _ => rfl | intro _h | apply pieceEq)
    all_goals (first | exact True.intro | omega | (simp [mkW]; done))
  · have hx : x ≤ 120 := hx
    have hlt : x < 120 := by have := of_decide_eq_true hlt; omega
    have hs := mkW_succ x
    have hl := mkW_len x
    have hw : IntKind.u32.wrap (3237998080 + IntKind.u32.wrap (x : Int)) = 3237998080 + (x : Int) := by rw [w_u32 (x := (x : Int)) (by omega), w_u32 (by omega)]
    simp only [hw]
    repeat' (first | with_reducible rfl | exact True.intro | apply And.intro | (intro _h; cases _h; done) | exact OwnSame.mk fun _ => rfl | exact OwnSameE.mk fun _ => rfl | intro _h | apply pieceEq)
    all_goals (first | exact True.intro | omega | (simp [hl]; done) | skip)
    refine ⟨x + 1, ?_⟩
    repeat' (first | with_reducible rfl | exact True.intro | apply And.intro | (intro _h; cases _h; done) | exact OwnSame.mk fun _ => rfl | exact OwnSameE.mk fun _ => rfl | intro _h | apply pieceEq)
    all_goals (first | exact True.intro | omega | (show x + 1 ≤ 120; omega) | (rw [hs]; simp; done))
  · have hx : x ≤ 120 := hx
    have hge : ¬ x < 120 := by intro h; have := of_decide_eq_false hge; omega
    obtain rfl : x = 120 := by omega
    repeat' (first | with_reducible rfl | exact True.intro | apply And.intro | (intro _h; cases _h; done) | exact OwnSame.mk fun _ => rfl | exact OwnSameE.mk fun _ => rfl | intro _h | apply pieceEq)
    all_goals (first | exact True.intro | omega | rfl)
def c_lent : ECon
  | [.rd .u32 v ws], [] => some ([(ws.length : Int) ≤ 60000000000], [⟨none, .on 0 (ws.length + 120) true, [some ⟨22, [.ints .u32 (ws.length + 120) (ws ++ mkW 120)], 1, none⟩]⟩])
  | _, _ => none
theorem c_lent_e : EEntry Tryd.prog 13 c_lent := by
  refine ⟨callFunc_ok Tryd.func13 (by kernel_rfl) (by kernel_rfl), fun args rows ps alts h hp => ?_⟩
  unfold c_lent at h
  split at h
  · cases h; exact lent_ok _ _ (hp _ (List.mem_of_getElem? (i := 0) rfl))
  · cases h
theorem lentB_ok (v : Value) (ws : List Int) (h0 : (ws.length : Int) ≤ 60000000000) : SemCall Tryd.prog 14 [.rd .u8 v ws] [] (AltK [⟨none, .on 0 (ws.length + 200) true, [some ⟨5, [.ints .u8 (ws.length + 200) (ws ++ mkY 200)], 1, none⟩]⟩]) := by
  refine con_intro mixed (cx_sf_ok (fun _ => none) (fun q s => bif Nat.beq q 4 then some ⟨Nat, fun k => ⟨[(0, .rd .u8 v ws), (3, .on 0 (ws.length + k) true), (4, .int .i64 k)], [some ⟨5, [.ints .u8 (ws.length + k) (ws ++ mkY k)], 1, none⟩]⟩, fun k => k ≤ 200, fun k => 200 - k⟩ else none)) Tryd.func14 1000 ?_
  refine of_nf (p := ws.length ≤ (68719476736 : Nat) ∧ ∃ (x : Nat), (((v = v ∧ ws = ws) ∧ (ws.length = ws.length + x ∧ true = true) ∧ (0 : Int) = ((x : Nat) : Int) ∧ True) ∧ (nat_lit 4 + (1 : Nat) = (5 : TypeId) ∧ nat_lit 0 + (1 : Nat) = (1 : Nat) ∧ @Bool.rec (fun _ => Prop) False (ws = ws.append (mkY x)) (true && ws.length.beq (ws.length + x)) ∧ True) ∧ True) ∧ x.le (200 : Nat) ∧ ∀ (x : Nat), x.le (200 : Nat) → (decide (((x : Nat) : Int) < (200 : Int)) = true → ((-9223372036854775808 : Int) ≤ (192 : Int) + ((x : Nat) : Int) ∧ (192 : Int) + ((x : Nat) : Int) < (9223372036854775808 : Int)) ∧ ws.length + x = ws.length + x ∧ (ws.append (mkY x)).length = ws.length + x ∧ ws.length + x + (1 : Nat) ≤ (68719476736 : Nat) ∧ ((-9223372036854775808 : Int) ≤ ((x : Nat) : Int) + (1 : Int) ∧ ((x : Nat) : Int) + (1 : Int) < (9223372036854775808 : Int)) ∧ ∃ (y : Nat), (((v = v ∧ ws = ws) ∧ (ws.length + x + (1 : Nat) = ws.length + y ∧ true = true) ∧ ((x : Nat) : Int) + (1 : Int) = ((y : Nat) : Int) ∧ True) ∧ (nat_lit 4 + (1 : Nat) = (5 : TypeId) ∧ nat_lit 0 + (1 : Nat) = (1 : Nat) ∧ @Bool.rec (fun _ => Prop) False ((ws.append (mkY x)).append [IntKind.u8.wrap ((192 : Int) + ((x : Nat) : Int))] = ws.append (mkY y)) (true && (ws.length + x + (1 : Nat)).beq (ws.length + y)) ∧ True) ∧ True) ∧ y.le (200 : Nat) ∧ (200 : Nat) - y < (200 : Nat) - x) ∧ (decide (((x : Nat) : Int) < (200 : Int)) = false → ((ws.length + x = ws.length + (200 : Nat) ∧ true = true) ∧ True) ∧ ((5 : TypeId) = (5 : TypeId) ∧ (1 : Nat) = (1 : Nat) ∧ @Bool.rec (fun _ => Prop) False (ws.append (mkY x) = ws.append (mkY (200 : Nat))) (true && (ws.length + x).beq (ws.length + (200 : Nat))) ∧ True) ∧ True)) (by kernel_rfl) ?_
  refine ⟨by omega, 0, ?_, Nat.zero_le _, fun x hx => ⟨fun hlt => ?_, fun hge => ?_⟩⟩
  · repeat' (first | with_reducible rfl | exact True.intro | apply And.intro | (intro _h; cases _h; done) | exact OwnSame.mk fun _ => rfl | exact OwnSameE.mk fun _ => rfl | intro _h | apply pieceEq)
    all_goals (first | exact True.intro | omega | (simp [mkY]; done))
  · have hx : x ≤ 200 := hx
    have hlt : x < 200 := by have := of_decide_eq_true hlt; omega
    have hs := mkY_succ x
    have hl := mkY_len x
    skip
    repeat' (first | with_reducible rfl | exact True.intro | apply And.intro | (intro _h; cases _h; done) | exact OwnSame.mk fun _ => rfl | exact OwnSameE.mk fun _ => rfl | intro _h | apply pieceEq)
    all_goals (first | exact True.intro | omega | (simp [hl]; done) | skip)
    refine ⟨x + 1, ?_⟩
    repeat' (first | with_reducible rfl | exact True.intro | apply And.intro | (intro _h; cases _h; done) | exact OwnSame.mk fun _ => rfl | exact OwnSameE.mk fun _ => rfl | intro _h | apply pieceEq)
    all_goals (first | exact True.intro | omega | (show x + 1 ≤ 200; omega) | (rw [hs]; simp; done))
  · have hx : x ≤ 200 := hx
    have hge : ¬ x < 200 := by intro h; have := of_decide_eq_false hge; omega
    obtain rfl : x = 200 := by omega
    repeat' (first | with_reducible rfl | exact True.intro | apply And.intro | (intro _h; cases _h; done) | exact OwnSame.mk fun _ => rfl | exact OwnSameE.mk fun _ => rfl | intro _h | apply pieceEq)
    all_goals (first | exact True.intro | omega | rfl)
def c_lentB : ECon
  | [.rd .u8 v ws], [] => some ([(ws.length : Int) ≤ 60000000000], [⟨none, .on 0 (ws.length + 200) true, [some ⟨5, [.ints .u8 (ws.length + 200) (ws ++ mkY 200)], 1, none⟩]⟩])
  | _, _ => none
theorem c_lentB_e : EEntry Tryd.prog 14 c_lentB := by
  refine ⟨callFunc_ok Tryd.func14 (by kernel_rfl) (by kernel_rfl), fun args rows ps alts h hp => ?_⟩
  unfold c_lentB at h
  split at h
  · cases h; exact lentB_ok _ _ (hp _ (List.mem_of_getElem? (i := 0) rfl))
  · cases h
theorem same_ok (v : Value) (xs : List Int) (u : Value) (ys : List Int) (h0 : (xs.length : Int) ≤ 9000000000000000000) : PureSem Tryd.prog 28 [.rd .u32 v xs, .rd .u32 u ys] (.bool (xs == ys)) := by
  refine pure_intro mixed (cx_sf_ok (fun _ => none) (fun q s => bif Nat.beq q 4 then some ⟨Nat, fun k => s.upd [] [(5, .int .i64 k)] [], fun k => k ≤ xs.length ∧ xs.take k = ys.take k, fun k => xs.length - k⟩ else none)) Tryd.func28 1000 rfl rfl ?_
  refine of_nf (p := ((((xs.length : Nat) : Int) != ((ys.length : Nat) : Int)) = true → false = (xs == ys)) ∧ ((((xs.length : Nat) : Int) != ((ys.length : Nat) : Int)) = false → ∃ (x : Nat), (((0 : Int) = ((x : Nat) : Int) ∧ SV.litb false = SV.litb false ∧ ((ys.length : Nat) : Int) = ((ys.length : Nat) : Int) ∧ (u = u ∧ ys = ys) ∧ ((xs.length : Nat) : Int) = ((xs.length : Nat) : Int) ∧ (v = v ∧ xs = xs) ∧ SV.litb false = SV.litb false ∧ (v = v ∧ xs = xs) ∧ (u = u ∧ ys = ys) ∧ True) ∧ True) ∧ (x ≤ xs.length ∧ List.take x xs = List.take x ys) ∧ ∀ (x : Nat), x ≤ xs.length ∧ List.take x xs = List.take x ys → (decide (((x : Nat) : Int) < ((xs.length : Nat) : Int)) = true → (0 : Int) ≤ ((x : Nat) : Int) ∧ ((x : Nat) : Int) < ((xs.length : Nat) : Int) ∧ (0 : Int) ≤ ((x : Nat) : Int) ∧ ((x : Nat) : Int) < ((ys.length : Nat) : Int) ∧ ((xs.getD (((x : Nat) : Int)).toNat (0 : Int) != ys.getD (((x : Nat) : Int)).toNat (0 : Int)) = true → false = (xs == ys)) ∧ ((xs.getD (((x : Nat) : Int)).toNat (0 : Int) != ys.getD (((x : Nat) : Int)).toNat (0 : Int)) = false → ((-9223372036854775808 : Int) ≤ ((x : Nat) : Int) + (1 : Int) ∧ ((x : Nat) : Int) + (1 : Int) < (9223372036854775808 : Int)) ∧ ∃ (y : Nat), ((((x : Nat) : Int) + (1 : Int) = ((y : Nat) : Int) ∧ SV.litb false = SV.litb false ∧ ((ys.length : Nat) : Int) = ((ys.length : Nat) : Int) ∧ (u = u ∧ ys = ys) ∧ ((xs.length : Nat) : Int) = ((xs.length : Nat) : Int) ∧ (v = v ∧ xs = xs) ∧ SV.litb false = SV.litb false ∧ (v = v ∧ xs = xs) ∧ (u = u ∧ ys = ys) ∧ True) ∧ True) ∧ (y ≤ xs.length ∧ List.take y xs = List.take y ys) ∧ xs.length - y < xs.length - x)) ∧ (decide (((x : Nat) : Int) < ((xs.length : Nat) : Int)) = false → true = (xs == ys)))) (by kernel_rfl) ?_
  refine ⟨fun hne => ?_, fun heq => ⟨0, ?_, ⟨Nat.zero_le _, rfl⟩, fun x hx => ⟨fun hlt => ?_, fun hge => ?_⟩⟩⟩
  · have : (xs == ys) = false := beq_false_of_ne (by rintro rfl; simp at hne)
    rw [this]
  · repeat' (first | with_reducible rfl | exact True.intro | apply And.intro | (intro _h; cases _h; done) | exact OwnSame.mk fun _ => rfl | exact OwnSameE.mk fun _ => rfl | intro _h | apply pieceEq)
    all_goals (first | exact True.intro | omega | rfl)
  · obtain ⟨hx, ht⟩ := hx
    have hl : xs.length = ys.length := by simp only [bne_eq_false_iff_eq] at heq; omega
    have hlt : x < xs.length := by have := of_decide_eq_true hlt; omega
    obtain ⟨k1, k2⟩ := same_step hl ht hlt
    simp only [Int.toNat_natCast]
    refine ⟨by omega, by omega, by omega, by omega, fun e => (k2 e).symm, fun e => ⟨?_, x + 1, ?_, ⟨?_, k1 e⟩, ?_⟩⟩
    all_goals (try omega)
    repeat' (first | with_reducible rfl | exact True.intro | apply And.intro | (intro _h; cases _h; done) | exact OwnSame.mk fun _ => rfl | exact OwnSameE.mk fun _ => rfl | intro _h | apply pieceEq)
    all_goals (first | exact True.intro | omega)
  · obtain ⟨hx, ht⟩ := hx
    have hl : xs.length = ys.length := by simp only [bne_eq_false_iff_eq] at heq; omega
    have hge : ¬ x < xs.length := by intro h; have := of_decide_eq_false hge; omega
    obtain rfl : x = xs.length := by omega
    rw [List.take_length, List.take_of_length_le (by omega)] at ht
    subst ht
    simp
def c_same : List SV → Option (List Prop × SV)
  | [.rd .u32 v xs, .rd .u32 u ys] => some ([(xs.length : Int) ≤ 9000000000000000000], .bool (xs == ys))
  | _ => none
theorem c_same_e : PEntry Tryd.prog 28 c_same := by
  refine ⟨callFunc_ok Tryd.func28 (by kernel_rfl) (by kernel_rfl), fun args ps v h hp => ?_⟩
  unfold c_same at h
  split at h
  · cases h; exact same_ok _ _ _ _ (hp _ (by simp))
  · cases h
noncomputable def pt_sj : List (Nat × (List SV → Option (List Prop × SV))) := [(28, c_same)]
theorem pt_sj_ok : PureOK Tryd.prog (fun f => List.lookup f pt_sj) := pure_list pt_sj ⟨c_same_e, trivial⟩
noncomputable def et_sj : List (Nat × ECon) := [(13, c_lent)]
theorem et_sj_ok : ConOK Tryd.prog (fun f => List.lookup f et_sj) := con_list et_sj ⟨c_lent_e, trivial⟩
noncomputable abbrev cx_sj (must : Nat → Option Bool := fun _ => none) (loop : Nat → SS → Option LoopSpec := fun _ _ => none) : Ctx := ⟨tab, inlC tab (fun f => List.lookup f pt_sj) (fun f => List.lookup f et_sj) fns (fun _ => {}) 1000 4, fun f => List.lookup f pt_sj, must, loop, 0, 0, fun f => List.lookup f et_sj⟩
theorem cx_sj_ok (must : Nat → Option Bool) (loop : Nat → SS → Option LoopSpec) : CxOK Tryd.prog (cx_sj must loop) := inlC_ok mixed tab_ok pt_sj_ok et_sj_ok fns_ok 4 _ _ _ _
theorem whole_ok (v : Value) (xs : List Int) (u : Value) (ws : List Int) (h0 : (xs.length : Int) ≤ 9000000000000000000) (h1 : (ws.length : Int) ≤ 60000000000) : PureSem Tryd.prog 19 [.rd .u32 v xs, .rd .u32 u ws] (.bool (xs == ws ++ mkW 120)) := by
  refine pure_intro mixed (cx_sj_ok (fun _ => none) (fun _ _ => none)) Tryd.func19 1000 rfl rfl ?_
  refine of_nf (p := ((ws.length : Nat) : Int) ≤ (60000000000 : Int) ∧ OwnSame c_same [false, true] [SV.rd IntKind.u32 v xs, SV.rd IntKind.u32 undef (List.take (ws.length + (120 : Nat)) (List.drop (0 : Nat) (ws.append (mkW (120 : Nat)))))] ∧ (0 : Nat) + (ws.length + (120 : Nat)) ≤ ws.length + (120 : Nat) ∧ (ws.append (mkW (120 : Nat))).length = ws.length + (120 : Nat) ∧ ((xs.length : Nat) : Int) ≤ (9000000000000000000 : Int) ∧ (xs == List.take (ws.length + (120 : Nat)) (List.drop (0 : Nat) (ws.append (mkW (120 : Nat))))) = (xs == ws.append (mkW (120 : Nat)))) (by kernel_rfl) ?_
  have e : List.take (ws.length + 120) (List.drop 0 (ws ++ mkW 120)) = ws ++ mkW 120 := by rw [List.drop_zero]; exact List.take_of_length_le (by simp [mkW_len])
  repeat' (first | with_reducible rfl | exact True.intro | apply And.intro | (intro _h; cases _h; done) | exact OwnSame.mk fun _ => rfl | exact OwnSameE.mk fun _ => rfl | intro _h | apply pieceEq)
  all_goals (first | exact True.intro | omega | (rw [← e]; rfl) | (simp only [e]; done) | (rw [show (xs == List.take (ws.length + 120) (List.drop 0 (ws ++ mkW 120))) = (xs == ws ++ mkW 120) by rw [e]]; done) | exact congrArg (fun z => xs == z) e | (simp [mkW_len]; omega) | (simp [mkW_len]; done))
def c_whole : List SV → Option (List Prop × SV)
  | [.rd .u32 v xs, .rd .u32 u ws] => some ([(xs.length : Int) ≤ 9000000000000000000, (ws.length : Int) ≤ 60000000000], .bool (xs == ws ++ mkW 120))
  | _ => none
theorem c_whole_e : PEntry Tryd.prog 19 c_whole := by
  refine ⟨callFunc_ok Tryd.func19 (by kernel_rfl) (by kernel_rfl), fun args ps v h hp => ?_⟩
  unfold c_whole at h
  split at h
  · cases h; exact whole_ok _ _ _ _ (hp _ (List.mem_of_getElem? (i := 0) rfl)) (hp _ (List.mem_of_getElem? (i := 1) rfl))
  · cases h
end Go.Proofs.YtieeahpokociiaaDoor
