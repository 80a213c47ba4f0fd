/- Sums as the document has them; lists lent. No condition beyond lengths. -/
import Derived.Test.YtheeaplnobdpoaaDoorShaE
namespace Go.Proofs.YtheeaplnobdpoaaDoor
open Go.RowKit Sx
set_option linter.unusedVariables false
set_option linter.unusedSimpArgs false
set_option maxRecDepth 100000
set_option maxHeartbeats 4000000
theorem pB_drop (bs : List Int) (a i : Nat) : ∀ j, pB (bs.drop (4 * a)) i j = pB bs (a + i) j
  | 0 => rfl
  | j + 1 => by
    simp only [pB, pB_drop bs a i j]
    rw [List.getD_eq_getElem?_getD, List.getElem?_drop, List.getD_eq_getElem?_getD, show 4 * a + (4 * i + j) = 4 * (a + i) + j by omega]
theorem wB_slice (bs : List Int) {n a b : Nat} (h : a + b ≤ n) : ((wB bs n).drop a).take b = wB (bs.drop (4 * a)) b := by
  apply List.ext_getElem?
  intro i
  unfold wB
  rw [List.getElem?_take, List.getElem?_drop, List.getElem?_map, List.getElem?_map]
  by_cases hi : i < b
  · rw [if_pos hi, List.getElem?_range (by omega), List.getElem?_range hi]
    simp only [Option.map_some, pB_drop]
  · rw [if_neg hi, List.getElem?_eq_none (by simp; omega)]; rfl
theorem stA_wB (st bs : List Int) {n : Nat} : ∀ {k : Nat}, 16 * k ≤ n → stA st (wB bs n) k = stB st bs k
  | 0, _ => rfl
  | k + 1, h => by
    simp only [stA, stB]
    rw [stA_wB st bs (by omega), wB_slice bs (by omega), show 4 * (16 * k) = 64 * k by omega]
theorem wB_drop (bs : List Int) {n a : Nat} (h : a ≤ n) : (wB bs n).drop a = wB (bs.drop (4 * a)) (n - a) := by
  rw [← wB_slice bs (n := n) (a := a) (b := n - a) (by omega), List.take_of_length_le]
  rw [List.length_drop, wB_len]; exact Nat.le_refl _
theorem getD_app_l {a b : List Int} {i : Nat} (h : i < a.length) : (a ++ b).getD i 0 = a.getD i 0 := by
  simp [List.getD_eq_getElem?_getD, List.getElem?_append_left h]
theorem getD_app_r {a b : List Int} {i : Nat} (h : a.length ≤ i) : (a ++ b).getD i 0 = b.getD (i - a.length) 0 := by
  simp [List.getD_eq_getElem?_getD, List.getElem?_append_right h]
theorem getD_rep {n i : Nat} {x : Int} : (List.replicate n x).getD i 0 = if i < n then x else 0 := by
  simp only [List.getD_eq_getElem?_getD, List.getElem?_replicate]
  split <;> rfl
theorem lP_drop (bs : List Int) (a q : Nat) : ∀ j, lP (bs.drop (4 * a)) q j = lP bs (a + q) j
  | 0 => rfl
  | j + 1 => by
    simp only [lP, lP_drop bs a q j]
    rw [List.getD_eq_getElem?_getD, List.getElem?_drop, List.getD_eq_getElem?_getD, show 4 * a + (4 * q + j) = 4 * (a + q) + j by omega]
theorem lastB_drop {bs : List Int} {a : Nat} (h : 4 * a ≤ bs.length) : lastB (bs.drop (4 * a)) = lastB bs := by
  unfold lastB
  rw [lP_drop, List.length_drop, show (bs.length - 4 * a) % 4 = bs.length % 4 by omega, show a + (bs.length - 4 * a) / 4 = bs.length / 4 by omega]
theorem wrap8 (x : Int) : IntKind.u8.wrap x = x % 256 := by unfold IntKind.wrap; simp [IntKind.bits, IntKind.signed]
theorem zz (r : Nat) : r + 1 + zB r = 4 * (r / 4 + 1 + zN (r / 4)) := by unfold zB zN; omega
theorem list_eq {a b : List Int} (hl : a.length = b.length) (h : ∀ i, i < a.length → a.getD i 0 = b.getD i 0) : a = b := by
  apply List.ext_getElem hl
  intro i h1 h2
  have := h i h1
  rwa [List.getD_eq_getElem?_getD, List.getElem?_eq_getElem h1, List.getD_eq_getElem?_getD, List.getElem?_eq_getElem h2] at this
theorem wB_getD {bs : List Int} {n i : Nat} (h : i < n) : (wB bs n).getD i 0 = ((bs.getD (4 * i) 0 * 256 + bs.getD (4 * i + 1) 0) * 256 + bs.getD (4 * i + 2) 0) * 256 + bs.getD (4 * i + 3) 0 := by
  unfold wB
  rw [List.getD_eq_getElem?_getD, List.getElem?_map, List.getElem?_range h]
  simp [pB]
/-- The bytes of the padding. -/
theorem padB_a {rest : List Int} {n : Int} {i : Nat} (h : i < rest.length) : (padB rest n).getD i 0 = rest.getD i 0 := by
  unfold padB
  rw [List.append_assoc, List.append_assoc, getD_app_l h]
theorem padB_b {rest : List Int} {n : Int} : (padB rest n).getD rest.length 0 = 128 := by
  unfold padB
  rw [List.append_assoc, List.append_assoc, getD_app_r (Nat.le_refl _), Nat.sub_self, getD_app_l (by simp)]
  rfl
theorem padB_c {rest : List Int} {n : Int} {i : Nat} (h1 : rest.length < i) (h2 : i < rest.length + 1 + zB rest.length) : (padB rest n).getD i 0 = 0 := by
  unfold padB
  rw [getD_app_l (by simp; omega), getD_app_r (by simp; omega), getD_rep]
  split <;> rfl
theorem padB_d {rest : List Int} {n : Int} {j : Nat} (h : j < 8) : (padB rest n).getD (rest.length + 1 + zB rest.length + j) 0 = n / 2 ^ (8 * (7 - j)) % 256 := by
  unfold padB
  rw [getD_app_r (by simp; omega)]
  have : rest.length + 1 + zB rest.length + j - (rest ++ [128] ++ List.replicate (zB rest.length) 0).length = j := by simp; omega
  rw [this]
  unfold beL
  rw [List.getD_eq_getElem?_getD, List.getElem?_map, List.getElem?_range h]
  simp [wrap8]
theorem padB_len (rest : List Int) (n : Int) : (padB rest n).length = rest.length + 1 + zB rest.length + 8 := by simp [padB, beL_len]; omega
theorem padW {rest : List Int} {n : Int} (hn : 0 ≤ n ∧ n < 18446744073709551616) : padL (wB rest (rest.length / 4)) (lastB rest) n = wB (padB rest n) ((padB rest n).length / 4) := by
  have hz := zz rest.length
  have hlen : (padL (wB rest (rest.length / 4)) (lastB rest) n).length = rest.length / 4 + 1 + zN (rest.length / 4) + 2 := by rw [padL_len, wB_len]
  have hlen2 : (padB rest n).length / 4 = rest.length / 4 + 1 + zN (rest.length / 4) + 2 := by rw [padB_len]; omega
  refine list_eq (by rw [hlen, wB_len, hlen2]) fun i hi => ?_
  rw [hlen] at hi
  rw [wB_getD (by rw [hlen2]; exact hi)]
  by_cases c1 : i < rest.length / 4
  · rw [padB_a (by omega), padB_a (by omega), padB_a (by omega), padB_a (by omega), ← wB_getD c1]
    unfold padL
    rw [List.append_assoc, List.append_assoc, getD_app_l (by rw [wB_len]; exact c1)]
  · by_cases c2 : i = rest.length / 4
    · subst c2
      have e1 : (padL (wB rest (rest.length / 4)) (lastB rest) n).getD (rest.length / 4) 0 = lastB rest := by
        unfold padL
        rw [List.append_assoc, List.append_assoc, getD_app_r (by rw [wB_len]; exact Nat.le_refl _), wB_len, Nat.sub_self]
        rfl
      rw [e1]
      unfold lastB
      obtain ⟨q, c, hq, hc⟩ : ∃ q c, rest.length = 4 * q + c ∧ c < 4 := ⟨rest.length / 4, rest.length % 4, by omega, by omega⟩
      have d1 : rest.length / 4 = q := by omega
      have d2 : rest.length % 4 = c := by omega
      have hpb := padB_b (rest := rest) (n := n)
      rw [hq] at hpb
      have hpc : ∀ i, rest.length < i → i < 4 * (q + 1) → (padB rest n).getD i 0 = 0 := fun i h1 h2 => padB_c h1 (by rw [hz, d1]; omega)
      have hpa : ∀ i, i < rest.length → (padB rest n).getD i 0 = rest.getD i 0 := fun i h => padB_a h
      rw [d1, d2]
      rcases (by omega : c = 0 ∨ c = 1 ∨ c = 2 ∨ c = 3) with rfl | rfl | rfl | rfl
      · rw [Nat.add_zero] at hpb
        rw [hpb, hpc (4 * q + 1) (by omega) (by omega), hpc (4 * q + 2) (by omega) (by omega), hpc (4 * q + 3) (by omega) (by omega)]
        simp only [lP]; omega
      · rw [hpa (4 * q) (by omega), hpb, hpc (4 * q + 2) (by omega) (by omega), hpc (4 * q + 3) (by omega) (by omega)]
        simp only [lP, Nat.add_zero]; omega
      · rw [hpa (4 * q) (by omega), hpa (4 * q + 1) (by omega), hpb, hpc (4 * q + 3) (by omega) (by omega)]
        simp only [lP, Nat.add_zero]; omega
      · rw [hpa (4 * q) (by omega), hpa (4 * q + 1) (by omega), hpa (4 * q + 2) (by omega), hpb]
        simp only [lP, Nat.add_zero]; omega
    · by_cases c3 : i < rest.length / 4 + 1 + zN (rest.length / 4)
      · rw [padB_c (by omega) (by omega), padB_c (by omega) (by omega), padB_c (by omega) (by omega), padB_c (by omega) (by omega)]
        unfold padL
        rw [getD_app_l (by simp [wB_len]; omega), getD_app_r (by simp [wB_len]; omega), getD_rep]
        split <;> rfl
      · have hd := fun j (h : j < 8) => padB_d (rest := rest) (n := n) h
        rw [hz] at hd
        have e2 : ∀ t, i = rest.length / 4 + 1 + zN (rest.length / 4) + t → (padL (wB rest (rest.length / 4)) (lastB rest) n).getD i 0 = [n / 4294967296 % 4294967296, n % 4294967296].getD t 0 := fun t ht => by
          unfold padL
          rw [getD_app_r (by simp [wB_len]; omega)]
          congr 1
          simp [wB_len]; omega
        rcases (by omega : i = rest.length / 4 + 1 + zN (rest.length / 4) + 0 ∨ i = rest.length / 4 + 1 + zN (rest.length / 4) + 1) with hi | hi
        · rw [e2 0 hi, show 4 * i = 4 * (rest.length / 4 + 1 + zN (rest.length / 4)) + 0 by omega, Nat.add_assoc _ 0 1, Nat.add_assoc _ 0 2, Nat.add_assoc _ 0 3, hd 0 (by omega), hd 1 (by omega), hd 2 (by omega), hd 3 (by omega)]
          simp only [List.getD_cons_zero]
          omega
        · rw [e2 1 hi, show 4 * i = 4 * (rest.length / 4 + 1 + zN (rest.length / 4)) + 4 by omega, Nat.add_assoc _ 4 1, Nat.add_assoc _ 4 2, Nat.add_assoc _ 4 3, hd 4 (by omega), hd 5 (by omega), hd 6 (by omega), hd 7 (by omega)]
          simp only [List.getD_cons_succ, List.getD_cons_zero]
          omega
/-- The document's sum of bytes is the program's. -/
theorem sumB_eq (bs : List Int) {n : Int} (hn : 0 ≤ n ∧ n < 18446744073709551616) : sumW (wB bs (bs.length / 4)) (lastB bs) n = stB (stB IVL bs (bs.length / 64)) (padB (bs.drop (64 * (bs.length / 64))) n) ((padB (bs.drop (64 * (bs.length / 64))) n).length / 64) := by
  unfold sumW
  rw [wB_len, stA_wB IVL bs (by omega), show bs.length / 4 / 16 = bs.length / 64 by omega, wB_drop bs (by omega)]
  have e : 4 * (16 * (bs.length / 64)) = 64 * (bs.length / 64) := by omega
  rw [e]
  have h1 := lastB_drop (bs := bs) (a := 16 * (bs.length / 64)) (by omega)
  rw [e] at h1
  rw [← h1, show bs.length / 4 - 16 * (bs.length / 64) = (bs.drop (64 * (bs.length / 64))).length / 4 by rw [List.length_drop]; omega]
  generalize bs.drop (64 * (bs.length / 64)) = rest
  unfold endS
  rw [padW hn, wB_len, stA_wB _ _ (by omega), show (padB rest n).length / 4 / 16 = (padB rest n).length / 64 by omega]
theorem bO_getD : ∀ (ws : List Int) (i : Nat), i < ws.length → (bO ws).getD (4 * i) 0 = ws.getD i 0 / 16777216 % 256 ∧ (bO ws).getD (4 * i + 1) 0 = ws.getD i 0 / 65536 % 256 ∧ (bO ws).getD (4 * i + 2) 0 = ws.getD i 0 / 256 % 256 ∧ (bO ws).getD (4 * i + 3) 0 = ws.getD i 0 % 256
  | [], i, h => by simp at h
  | w :: r, 0, h => by simp [bO, wrap8]
  | w :: r, i + 1, h => by
    have := bO_getD r i (by simpa using h)
    simp only [bO]
    rw [show 4 * (i + 1) = 4 * i + 4 by omega]
    simpa using this
theorem wB_bO {ws : List Int} (h : ∀ x ∈ ws, InK .u32 x) : wB (bO ws) ((bO ws).length / 4) = ws := by
  rw [bO_len, show 4 * ws.length / 4 = ws.length by omega]
  refine list_eq (wB_len _ _) fun i hi => ?_
  rw [wB_len] at hi
  obtain ⟨e1, e2, e3, e4⟩ := bO_getD ws i hi
  rw [wB_getD hi, e1, e2, e3, e4]
  have := getD_in h (by simp [InK]) i
  simp only [InK] at this
  omega
theorem bO_in (ws : List Int) : ∀ x ∈ bO ws, InK .u8 x := by
  induction ws with
  | nil => simp [bO]
  | cons w r ih =>
    intro x hx
    simp only [bO, List.mem_append, List.mem_cons, List.not_mem_nil, or_false] at hx
    rcases hx with (rfl | rfl | rfl | rfl) | hx
    · exact wrap8_in _
    · exact wrap8_in _
    · exact wrap8_in _
    · exact wrap8_in _
    · exact ih x hx
theorem sumW_bO {ws : List Int} (h : ∀ x ∈ ws, InK .u32 x) (n : Int) : sumW (wB (bO ws) ((bO ws).length / 4)) (lastB (bO ws)) n = sumW ws 2147483648 n := by
  rw [wB_bO h]
  unfold lastB
  rw [bO_len, show 4 * ws.length % 4 = 0 by omega]
  rfl
/-- The marks behind what is lent. -/
def mkW (k : Nat) : List Int := (List.range k).map fun (j : Nat) => 3237998080 + (j : Int)
theorem mkW_len (k : Nat) : (mkW k).length = k := by simp [mkW]
theorem mkW_succ (k : Nat) : mkW (k + 1) = mkW k ++ [3237998080 + (k : Int)] := by simp [mkW, List.range_succ]
theorem mkW_in (k : Nat) (hk : k ≤ 1000) : ∀ x ∈ mkW k, InK .u32 x := by
  intro x hx
  simp only [mkW, List.mem_map, List.mem_range] at hx
  obtain ⟨j, hj, rfl⟩ := hx
  simp only [InK]; omega
def mkY (k : Nat) : List Int := (List.range k).map fun (j : Nat) => IntKind.u8.wrap (192 + (j : Int))

theorem mkY_len (k : Nat) : (mkY k).length = k := by simp [mkY]
theorem mkY_succ (k : Nat) : mkY (k + 1) = mkY k ++ [IntKind.u8.wrap (192 + (k : Int))] := by simp [mkY, List.range_succ]
theorem mkY_in (k : Nat) : ∀ x ∈ mkY k, InK .u8 x := by
  intro x hx
  simp only [mkY, List.mem_map] at hx
  obtain ⟨j, _, rfl⟩ := hx
  exact wrap8_in _
/-- Are the first so many alike? -/
theorem same_step {a b : List Int} {x : Nat} (hl : a.length = b.length) (h : a.take x = b.take x) (hx : x < a.length) : ((a.getD x 0 != b.getD x 0) = false → a.take (x + 1) = b.take (x + 1)) ∧ ((a.getD x 0 != b.getD x 0) = true → (a == b) = false) := by
  have ea : a.getD x 0 = a[x] := by rw [List.getD_eq_getElem?_getD, List.getElem?_eq_getElem hx]; rfl
  have eb : b.getD x 0 = b[x]'(by omega) := by rw [List.getD_eq_getElem?_getD, List.getElem?_eq_getElem (by omega)]; rfl
  refine ⟨fun e => ?_, fun e => ?_⟩
  · rw [List.take_add_one, List.take_add_one, h, List.getElem?_eq_getElem hx, List.getElem?_eq_getElem (show x < b.length by omega)]
    simp only [bne_eq_false_iff_eq] at e
    rw [← ea, ← eb, e]
  · simp only [bne_iff_ne, ne_eq] at e
    apply beq_false_of_ne
    rintro rfl
    exact e rfl
noncomputable def pt_sh : List (Nat × (List SV → Option (List Prop × SV))) := [(105, c_blockAt)]
theorem pt_sh_ok : PureOK Tryd.prog (fun f => List.lookup f pt_sh) := pure_list pt_sh ⟨c_blockAt_e, trivial⟩
noncomputable abbrev cx_sh (must : Nat → Option Bool := fun _ => none) (loop : Nat → SS → Option LoopSpec := fun _ _ => none) : Ctx := ⟨tab, inl tab (fun f => List.lookup f pt_sh) fns (fun _ => {}) 1000 4, fun f => List.lookup f pt_sh, must, loop, 0, 0, fun _ => none⟩
theorem cx_sh_ok (must : Nat → Option Bool) (loop : Nat → SS → Option LoopSpec) : CxOK Tryd.prog (cx_sh must loop) := inl_ok mixed tab_ok pt_sh_ok fns_ok 4 _ _ _ _
noncomputable def pt_si : List (Nat × (List SV → Option (List Prop × SV))) := [(105, c_blockAt)]
theorem pt_si_ok : PureOK Tryd.prog (fun f => List.lookup f pt_si) := pure_list pt_si ⟨c_blockAt_e, trivial⟩
noncomputable def et_si : List (Nat × ECon) := [(97, c_RbytesOf)]
theorem et_si_ok : ConOK Tryd.prog (fun f => List.lookup f et_si) := con_list et_si ⟨c_RbytesOf_e, trivial⟩
noncomputable abbrev cx_si (must : Nat → Option Bool := fun _ => none) (loop : Nat → SS → Option LoopSpec := fun _ _ => none) : Ctx := ⟨tab, inlC tab (fun f => List.lookup f pt_si) (fun f => List.lookup f et_si) fns (fun _ => {}) 1000 4, fun f => List.lookup f pt_si, must, loop, 0, 0, fun f => List.lookup f et_si⟩
theorem cx_si_ok (must : Nat → Option Bool) (loop : Nat → SS → Option LoopSpec) : CxOK Tryd.prog (cx_si must loop) := inlC_ok mixed tab_ok pt_si_ok et_si_ok fns_ok 4 _ _ _ _
noncomputable def pt_sj : List (Nat × (List SV → Option (List Prop × SV))) := []
theorem pt_sj_ok : PureOK Tryd.prog (fun f => List.lookup f pt_sj) := pure_list pt_sj trivial
noncomputable abbrev cx_sj (must : Nat → Option Bool := fun _ => none) (loop : Nat → SS → Option LoopSpec := fun _ _ => none) : Ctx := ⟨tab, inl tab (fun f => List.lookup f pt_sj) fns (fun _ => {}) 1000 4, fun f => List.lookup f pt_sj, must, loop, 0, 0, fun _ => none⟩
theorem cx_sj_ok (must : Nat → Option Bool) (loop : Nat → SS → Option LoopSpec) : CxOK Tryd.prog (cx_sj must loop) := inl_ok mixed tab_ok pt_sj_ok fns_ok 4 _ _ _ _
end Go.Proofs.YtheeaplnobdpoaaDoor
