/- mac.Same over arrays of eight words, and the statement MacSame's walk: for every two arrays and every number of a bit the law answers true and writes to nothing that was there. No condition beyond the arguments' types. -/
import Derived.Test.YtmmejomalfjcnaaRows
import Derived.Test.YtmmejomalfjcnaaFlatEq
import Derived.Test.YtmmejomalfjcnaaBits
import Derived.Test.YtmmejomalfjcnaaBase
import Derived.WalkSpells
import Derived.WalkLawsBesides
import Derived.Deep.QuietTactic
import Derived.BigQuiet
import Derived.Deep.WholeRow
import Derived.Deep.Cut
import Derived.Lib.Hide
namespace Go.Proofs.Ytmmejomalfjcnaa
open Go.RowKit

def orx : List Int → List Int → Int → Nat → Int
  | _, _, acc, 0 => acc
  | a, b, acc, k + 1 => bits .or .u32 (orx a b acc k) (bits .xor .u32 (a[k]?.getD 0) (b[k]?.getD 0))

theorem getD_U32 {a : List Int} (h : ∀ x ∈ a, U32 x) (i : Nat) : U32 (a[i]?.getD 0) := by
  cases hi : a[i]? with
  | none => simp [U32]
  | some x => exact h x (List.mem_of_getElem? hi)

theorem orx_zero {a b : List Int} (ha : ∀ x ∈ a, U32 x) (hb : ∀ x ∈ b, U32 x) : ∀ k, U32 (orx a b 0 k) ∧ (orx a b 0 k = 0 ↔ ∀ i, i < k → a[i]?.getD 0 = b[i]?.getD 0)
  | 0 => by simp [orx, U32]
  | k + 1 => by
    obtain ⟨h1, h2⟩ := orx_zero ha hb k
    refine ⟨bits_U32 _ _ _, ?_⟩
    rw [orx, bits_or_zero h1 (bits_U32 _ _ _), bits_xor_zero (getD_U32 ha k) (getD_U32 hb k), h2]
    constructor
    · rintro ⟨p, q⟩ i hi
      by_cases e : i = k
      · subst e; exact q
      · exact p i (by omega)
    · intro h
      exact ⟨fun i hi => h i (by omega), h k (by omega)⟩

theorem orx_eq {a b : List Int} (ha : ∀ x ∈ a, U32 x) (hb : ∀ x ∈ b, U32 x) (la : a.length = 8) (lb : b.length = 8) : (orx a b 0 8 = 0) ↔ a = b := by
  rw [(orx_zero ha hb 8).2]
  constructor
  · intro h
    apply List.ext_getElem (by omega)
    intro i h1 h2
    have := h i (by omega)
    simpa [List.getElem?_eq_getElem h1, List.getElem?_eq_getElem h2] using this
  · rintro rfl i _; rfl

set_option maxHeartbeats 400000 in
theorem mac_Same (a b : List Int) (w : World) (ha : a.length = 8) (hb : b.length = 8) :
    Calls Try.prog 14 #[.agg (a.map (Value.int .u32)).toArray, .agg (b.map (Value.int .u32)).toArray] w fun e w' => e = .returned (.tuple #[.bool (orx a b 0 8 == 0), .int .i64 8]) ∧ Below w.heap.size w w' := by
  go_enter Try.func14, Try.ntmps14
  go_wp2
  go_loopw [5, 6, 8] (fun s5 s6 s8 wr => ∃ k : Nat, k ≤ 8 ∧ s5 = .int .i64 k ∧ s8 = .int .i64 k ∧ s6 = .int .u32 (orx a b 0 k) ∧ ∃ n, wr = ((w.alloc (.cells (a.map (Value.int .u32)).toArray 23)).alloc (.cells (b.map (Value.int .u32)).toArray 23)).drewN n) (fun _ _ s8 _ => 8 - (intOf s8).toNat)
  case atStart => exact ⟨0, by omega, rfl, rfl, rfl, 0, rfl⟩
  case round =>
    obtain ⟨k, hk, rfl, rfl, rfl, n, rfl⟩ := hrel
    by_cases hlt : k < 8
    · have hka : a[k]? = some (a.getD k 0) := by simp [List.getD, List.getElem?_eq_getElem (show k < a.length by omega)]
      have hkb : b[k]? = some (b.getD k 0) := by simp [List.getD, List.getElem?_eq_getElem (show k < b.length by omega)]
      go_wp2
      go_quiet (fail)
      go_wp2
      go_roundw
      case rel => exact ⟨k + 1, by omega, by go_num, by go_num, by simp [orx, ha, hb, hlt], _, rfl⟩
      case measure => simp [intOf]; omega
    · have : k = 8 := by omega
      subst this
      go_wp2
      go_ret2
      exact ⟨rfl, below_drewN (((Below.refl _ _).alloc (Nat.le_refl _) _).alloc (by simp) _) _⟩

theorem mac_Same_b (a b : List Int) (r : Bool) (w : World) (ha : a.length = 8) (hb : b.length = 8) (h : (orx a b 0 8 == 0) = r) :
    Calls Try.prog 14 #[.agg (a.map (Value.int .u32)).toArray, .agg (b.map (Value.int .u32)).toArray] w fun e w' => e = .returned (.tuple #[.bool r, .int .i64 8]) ∧ Below w.heap.size w w' := by
  subst h; exact mac_Same a b w ha hb

set_option maxHeartbeats 400000 in
theorem mac_within (x lo hi : Int) (w : World) (h1 : 0 ≤ lo) (h2 : lo ≤ hi) (h3 : hi < 4611686018427387904) (hx : -9223372036854775808 ≤ x) (hx' : x ≤ 9223372036854775807) :
    Calls Try.prog 15 #[.int .i64 x, .int .i64 lo, .int .i64 hi] w fun e w' => (∃ r : Nat, e = .returned (.int .i64 r) ∧ lo ≤ r ∧ r ≤ hi) ∧ w = w' := by
  by_cases hx0 : 0 ≤ x
  · have m0 := Int.emod_nonneg x (show hi - lo + 1 ≠ 0 by omega)
    have m1 := Int.emod_lt_of_pos x (show 0 < hi - lo + 1 by omega)
    go_enter Try.func15, Try.ntmps15
    go_wp2
    go_ret
    exact ⟨⟨(lo + x % (hi - lo + 1)).toNat, ret_int (Int.toNat_of_nonneg (by omega)).symm, by omega, by omega⟩, rfl⟩
  · have m0 : x.tmod (hi - lo + 1) < hi - lo + 1 := Int.tmod_lt_of_pos _ (by omega)
    have m1 := Int.lt_tmod_of_pos x (show 0 < hi - lo + 1 by omega)
    go_enter Try.func15, Try.ntmps15
    go_wp2
    · go_ret
      exact ⟨⟨(lo + (x.tmod (hi - lo + 1) + hi - lo + 1)).toNat, ret_int (Int.toNat_of_nonneg (by omega)).symm, by omega, by omega⟩, rfl⟩
    · go_ret
      exact ⟨⟨(lo + x.tmod (hi - lo + 1)).toNat, ret_int (Int.toNat_of_nonneg (by omega)).symm, by omega, by omega⟩, rfl⟩

theorem mac_size : (Try.prog.info? 23).map (·.size) = some 8 := by kernel_rfl
theorem mac_flat : flatAt Try.prog 2 23 = some (List.replicate 8 (some .u32)) := by kernel_rfl
theorem mac_agg : isAggT Try.prog 23 = true := by kernel_rfl

set_option maxRecDepth 100000 in
set_option maxHeartbeats 1000000 in
theorem MacSame_walk (a b : List Int) (bit : Int) (w : World) (ha : a.length = 8) (hb : b.length = 8) (wa : ∀ x ∈ a, U32 x) (wb : ∀ x ∈ b, U32 x) (hx : -9223372036854775808 ≤ bit) (hx' : bit ≤ 9223372036854775807) :
    Calls Try.prog 3 #[.agg (a.map (Value.int .u32)).toArray, .agg (b.map (Value.int .u32)).toArray, .int .i64 bit] w fun e w' => e = .returned (.bool true) ∧ Below w.heap.size w w' := by
  have c3 := heap_alloc2_old w (.cells (a.map (Value.int .u32)).toArray 23) (.cells (b.map (Value.int .u32)).toArray 23)
  have c4 := heap_alloc2_new w (.cells (a.map (Value.int .u32)).toArray 23) (.cells (b.map (Value.int .u32)).toArray 23)
  obtain ⟨r, hr, hiff⟩ : ∃ r : Bool, (orx a b 0 8 == 0) = r ∧ (r = true ↔ a = b) := ⟨_, rfl, by rw [beq_iff_eq]; exact orx_eq wa wb ha hb⟩
  have HR := Lib.hid hr
  have HI := Lib.hid hiff
  have haa : Hid ((orx a a 0 8 == 0) = true) := by rw [Hid, beq_iff_eq]; exact (orx_eq wa wa ha ha).2 rfl
  clear hr hiff
  have WA := Lib.hid wa
  have WB := Lib.hid wb
  clear wa wb
  go_enter Try.func3, Try.ntmps3
  go_wp2_with (with_reducible (refine wpList_load_row rfl 23 _ rfl _ rfl _ _ _ _ (by assumption) Try.underlying23 rfl (rsize _ (by assumption) mac_size) ?_))
  refine (mac_Same_b a b r _ ha hb HR.out).mono ?_
  rintro e w1 ⟨rfl, hb1⟩
  have b1 : Below w.heap.size w w1 := (((Below.refl _ _).alloc (Nat.le_refl _) _).alloc (by simp) _).trans (hb1.mono (by simp; omega))
  have s1 : w.heap.size + 2 ≤ w1.heap.size := by have := hb1.size; simp at this; omega
  replace c3 := below_row hb1 c3 (by simp; omega)
  replace c4 := below_row hb1 c4 (by simp)
  clear hb1
  go_wp2_with (with_reducible (refine wpList_load_row rfl 23 _ rfl _ rfl _ _ _ _ (by assumption) Try.underlying23 rfl (rsize _ (by assumption) mac_size) ?_))
  refine (mac_Same_b a a true _ ha ha haa.out).mono ?_
  rintro e w2 ⟨rfl, hb2⟩
  replace b1 := b1.trans (hb2.mono (by omega))
  replace c3 := below_row hb2 c3 (by omega)
  replace c4 := below_row hb2 c4 (by omega)
  replace s1 := Nat.le_trans s1 hb2.size
  clear hb2
  go_wp2_with (first | (refine wpList_store_new rfl 23 _ _ rfl _ rfl rfl (rsize _ (by assumption) mac_size) (by simp [ha]) (oneCells _ _) ?_) | (with_reducible (refine wpList_load_row rfl 23 _ rfl _ rfl _ _ _ _ (by assumption) Try.underlying23 rfl (rsize _ (by assumption) mac_size) ?_)))
  refine (mac_within bit 0 255 _ (by omega) (by omega) (by omega) hx hx').mono ?_
  rintro e w3 ⟨⟨n, rfl, _, hn⟩, rfl⟩
  have hn8 : n / 32 < 8 := by omega
  have hka : a[n / 32]? = some (a.getD (n / 32) 0) := by simp [List.getD, List.getElem?_eq_getElem (show n / 32 < a.length by omega)]
  go_upto_region 6 with (fail)
  rw [← List.map_set]
  generalize hc : a.set (n / 32) _ = c
  have hcl : c.length = 8 := by rw [← hc]; simp [ha]
  have wc : ∀ x ∈ c, U32 x := by
    rw [← hc]
    intro x hx
    rcases List.mem_or_eq_of_mem_set hx with h | rfl
    · exact WA.out x h
    · exact bits_U32 _ _ _
  have hne : a ≠ c := by
    intro e
    have hlt : n / 32 < a.length := by omega
    have h1 : a[n / 32] = c[n / 32]'(by omega) := by simp only [e]
    simp only [← hc, List.getElem_set_self] at h1
    have hu := WA.out _ (List.getElem_mem hlt)
    have h2 : U32 (2 ^ (n % 32) % 4294967296) := by unfold U32; omega
    exact flip_ne hu (by omega) h1
  have hac : Hid ((orx a c 0 8 == 0) = false) := by rw [Hid, beq_eq_false_iff_ne]; exact fun h => hne ((orx_eq WA.out wc ha hcl).1 h)
  have hca : Hid ((orx c a 0 8 == 0) = false) := by rw [Hid, beq_eq_false_iff_ne]; exact fun h => hne ((orx_eq wc WA.out hcl ha).1 h).symm
  clear hc wc hne hka
  have b2 := b1.alloc (by omega) (Obj.cells (c.map (Value.int .u32)).toArray 23)
  have c11 := heap_alloc_new w2 (Obj.cells (c.map (Value.int .u32)).toArray 23)
  replace c3 := alloc_row (o := Obj.cells (c.map (Value.int .u32)).toArray 23) c3 (by omega)
  replace c4 := alloc_row (o := Obj.cells (c.map (Value.int .u32)).toArray 23) c4 (by omega)
  go_wp2_with (with_reducible (refine wpList_load_row rfl 23 _ rfl _ rfl _ _ _ _ (by assumption) Try.underlying23 rfl (rsize _ (by assumption) mac_size) ?_))
  refine (mac_Same_b a c false _ ha hcl hac.out).mono ?_
  rintro e w4 ⟨rfl, hb4⟩
  replace b2 := b2.trans (hb4.mono (by simp; omega))
  replace c3 := below_row hb4 c3 (by simp; omega)
  replace c4 := below_row hb4 c4 (by simp; omega)
  replace c11 := below_row hb4 c11 (by simp)
  have s4 : w2.heap.size + 1 ≤ w4.heap.size := by have := hb4.size; simp at this; omega
  clear hb4 b1
  go_wp2_with (with_reducible (refine wpList_load_row rfl 23 _ rfl _ rfl _ _ _ _ (by assumption) Try.underlying23 rfl (rsize _ (by assumption) mac_size) ?_))
  refine (mac_Same_b c a false _ hcl ha hca.out).mono ?_
  rintro e w5 ⟨rfl, hb5⟩
  replace b2 := b2.trans (hb5.mono (by omega))
  replace c3 := below_row hb5 c3 (by omega)
  replace c4 := below_row hb5 c4 (by omega)
  clear hb5 c11
  have he := run_equalIn_flat (P := Try.prog) w5 mac_agg mac_flat (by decide) (ha ▸ fits_of_ints a (fun x hx => (WA.out x hx).wf)) (hb ▸ fits_of_ints b (fun x hx => (WB.out x hx).wf)) r (HI.out.trans (List.map_inj_right (by simp)).symm)
  go_wp2_with (with_reducible (refine wpList_load_row rfl 23 _ rfl _ rfl _ _ _ _ (by assumption) Try.underlying23 rfl (rsize _ (by assumption) mac_size) ?_))
  go_ret
  exact ⟨rfl, b2⟩
end Go.Proofs.Ytmmejomalfjcnaa
