/- The walk of the law EntryNames: for every two numbers it answers true and writes to nothing that was there. No condition beyond the arguments' types. -/
import Derived.Test.YtmmejomalfjcnaaEntryNm
namespace Go.Proofs.Ytmmejomalfjcnaa
open Go.RowKit
set_option linter.unusedVariables false


theorem tName_out (n : Int) (h : n < 0 ∨ 7 ≤ n) : tName n = ⟨#[]⟩ := by unfold tName; rw [if_neg (by omega), if_neg (by omega), if_neg (by omega), if_neg (by omega), if_neg (by omega), if_neg (by omega), if_neg (by omega)]
theorem tName_in (a : Int) (h : 0 ≤ a) (h2 : a < 7) : (tName a).toList.isEmpty = false := by
  rw [ByteArray.toList_eq]
  have : a = 0 ∨ a = 1 ∨ a = 2 ∨ a = 3 ∨ a = 4 ∨ a = 5 ∨ a = 6 := by omega
  rcases this with rfl | rfl | rfl | rfl | rfl | rfl | rfl <;> rfl
theorem tName_inj (a b : Int) (h : 0 ≤ a) (h2 : a < 7) : ((tName a).toList == (tName b).toList) = (a == b) := by
  rw [ByteArray.toList_eq, ByteArray.toList_eq]
  have ha : a = 0 ∨ a = 1 ∨ a = 2 ∨ a = 3 ∨ a = 4 ∨ a = 5 ∨ a = 6 := by omega
  by_cases hb : b < 0 ∨ 7 ≤ b
  · rw [tName_out b hb]
    have hne : (a == b) = false := by simp; omega
    rw [hne]
    rcases ha with rfl | rfl | rfl | rfl | rfl | rfl | rfl <;> rfl
  · have hb' : b = 0 ∨ b = 1 ∨ b = 2 ∨ b = 3 ∨ b = 4 ∨ b = 5 ∨ b = 6 := by omega
    rcases ha with rfl | rfl | rfl | rfl | rfl | rfl | rfl <;> rcases hb' with rfl | rfl | rfl | rfl | rfl | rfl | rfl <;> rfl

theorem sName_out (n : Int) (h : n < 0 ∨ 4 ≤ n) : sName n = ⟨#[]⟩ := by unfold sName; rw [if_neg (by omega), if_neg (by omega), if_neg (by omega), if_neg (by omega)]
theorem sName_in (a : Int) (h : 0 ≤ a) (h2 : a < 4) : (sName a).toList.isEmpty = false := by
  rw [ByteArray.toList_eq]
  have : a = 0 ∨ a = 1 ∨ a = 2 ∨ a = 3 := by omega
  rcases this with rfl | rfl | rfl | rfl <;> rfl
theorem sName_inj (a b : Int) (h : 0 ≤ a) (h2 : a < 4) : ((sName a).toList == (sName b).toList) = (a == b) := by
  rw [ByteArray.toList_eq, ByteArray.toList_eq]
  have ha : a = 0 ∨ a = 1 ∨ a = 2 ∨ a = 3 := by omega
  by_cases hb : b < 0 ∨ 4 ≤ b
  · rw [sName_out b hb]
    have hne : (a == b) = false := by simp; omega
    rw [hne]
    rcases ha with rfl | rfl | rfl | rfl <;> rfl
  · have hb' : b = 0 ∨ b = 1 ∨ b = 2 ∨ b = 3 := by omega
    rcases ha with rfl | rfl | rfl | rfl <;> rcases hb' with rfl | rfl | rfl | rfl <;> rfl

set_option maxRecDepth 100000 in
set_option maxHeartbeats 400000 in
theorem EntryNames_a1 (a b : Int) (w : World) (h1 : 0 ≤ a) (h2 : a < 4) :
    Calls Try.prog 11 #[.int .i64 a, .int .i64 b] w fun e w' => e = .returned (.bool true) ∧ Below w.heap.size w w' := by
  obtain ⟨q, hq⟩ : ∃ q, (a == b) = q := ⟨_, rfl⟩
  have f1 := tName_in a h1 (by omega)
  have f2 := sName_in a h1 h2
  have f3 := (tName_inj a b h1 (by omega)).trans hq
  have f4 := (sName_inj a b h1 h2).trans hq
  have l1 : a ≤ 6 := by omega
  have l2 : a ≤ 3 := by omega
  have TA := Lib.hid (fun w => entry_TypeName a w)
  have TB := Lib.hid (fun w => entry_TypeName b w)
  have SA := Lib.hid (fun w => entry_StateName a w)
  have SB := Lib.hid (fun w => entry_StateName b w)
  generalize tName a = sa at *
  generalize tName b = sb at *
  generalize sName a = ua at *
  generalize sName b = ub at *
  have bb : Below w.heap.size w w := Below.refl _ _
  go_enter Try.func11, Try.ntmps11
  go_wp2_with fail
  refine (entry_head _).mono ?_
  rintro e w1 ⟨rfl, hb⟩
  replace bb := bb.trans (hb.mono (by first | omega | (simp; done) | (simp; omega)))
  have s_w1 : w.heap.size + 0 ≤ w1.heap.size := by have := hb.size; first | omega | (simp at this; omega)
  clear hb
  go_wp2_with fail
  refine (entry_TypeName 6 _).mono ?_
  rintro e w2 ⟨rfl, hb⟩
  replace bb := bb.trans (hb.mono (by first | omega | (simp; done) | (simp; omega)))
  have s_w2 : w1.heap.size + 0 ≤ w2.heap.size := by have := hb.size; first | omega | (simp at this; omega)
  clear hb
  rw [show tName 6 = ⟨#[115, 112, 97, 114, 101]⟩ from rfl]
  go_wp2_with fail
  refine (entry_StateName 3 _).mono ?_
  rintro e w3 ⟨rfl, hb⟩
  replace bb := bb.trans (hb.mono (by first | omega | (simp; done) | (simp; omega)))
  have s_w3 : w2.heap.size + 0 ≤ w3.heap.size := by have := hb.size; first | omega | (simp at this; omega)
  clear hb
  rw [show sName 3 = ⟨#[115, 116, 111, 112, 112, 101, 100]⟩ from rfl]
  go_wp2_with fail
  refine (TA.out _).mono ?_
  rintro e w4 ⟨rfl, hb⟩
  replace bb := bb.trans (hb.mono (by first | omega | (simp; done) | (simp; omega)))
  have s_w4 : w3.heap.size + 0 ≤ w4.heap.size := by have := hb.size; first | omega | (simp at this; omega)
  clear hb
  go_wp2_with fail
  refine (TB.out _).mono ?_
  rintro e w5 ⟨rfl, hb⟩
  replace bb := bb.trans (hb.mono (by first | omega | (simp; done) | (simp; omega)))
  have s_w5 : w4.heap.size + 0 ≤ w5.heap.size := by have := hb.size; first | omega | (simp at this; omega)
  clear hb
  go_wp2_with fail
  refine (SA.out _).mono ?_
  rintro e w6 ⟨rfl, hb⟩
  replace bb := bb.trans (hb.mono (by first | omega | (simp; done) | (simp; omega)))
  have s_w6 : w5.heap.size + 0 ≤ w6.heap.size := by have := hb.size; first | omega | (simp at this; omega)
  clear hb
  go_wp2_with fail
  refine (SB.out _).mono ?_
  rintro e w7 ⟨rfl, hb⟩
  replace bb := bb.trans (hb.mono (by first | omega | (simp; done) | (simp; omega)))
  have s_w7 : w6.heap.size + 0 ≤ w7.heap.size := by have := hb.size; first | omega | (simp at this; omega)
  clear hb
  go_wp2_with fail
  go_ret
  exact ⟨rfl, bb⟩

set_option maxRecDepth 100000 in
set_option maxHeartbeats 400000 in
theorem EntryNames_a2 (a b : Int) (w : World) (h1 : 4 ≤ a) (h2 : a < 7) :
    Calls Try.prog 11 #[.int .i64 a, .int .i64 b] w fun e w' => e = .returned (.bool true) ∧ Below w.heap.size w w' := by
  obtain ⟨q, hq⟩ : ∃ q, (a == b) = q := ⟨_, rfl⟩
  have f1 := tName_in a (by omega) h2
  have f2 : (sName a).toList.isEmpty = true := by rw [sName_out a (by omega), ByteArray.toList_eq]; rfl
  have f3 := (tName_inj a b (by omega) h2).trans hq
  have l1 : a ≤ 6 := by omega
  have l2 : 3 < a := by omega
  have TA := Lib.hid (fun w => entry_TypeName a w)
  have TB := Lib.hid (fun w => entry_TypeName b w)
  have SA := Lib.hid (fun w => entry_StateName a w)
  have SB := Lib.hid (fun w => entry_StateName b w)
  generalize tName a = sa at *
  generalize tName b = sb at *
  generalize sName a = ua at *
  generalize sName b = ub at *
  have bb : Below w.heap.size w w := Below.refl _ _
  go_enter Try.func11, Try.ntmps11
  go_wp2_with fail
  refine (entry_head _).mono ?_
  rintro e w1 ⟨rfl, hb⟩
  replace bb := bb.trans (hb.mono (by first | omega | (simp; done) | (simp; omega)))
  have s_w1 : w.heap.size + 0 ≤ w1.heap.size := by have := hb.size; first | omega | (simp at this; omega)
  clear hb
  go_wp2_with fail
  refine (entry_TypeName 6 _).mono ?_
  rintro e w2 ⟨rfl, hb⟩
  replace bb := bb.trans (hb.mono (by first | omega | (simp; done) | (simp; omega)))
  have s_w2 : w1.heap.size + 0 ≤ w2.heap.size := by have := hb.size; first | omega | (simp at this; omega)
  clear hb
  rw [show tName 6 = ⟨#[115, 112, 97, 114, 101]⟩ from rfl]
  go_wp2_with fail
  refine (entry_StateName 3 _).mono ?_
  rintro e w3 ⟨rfl, hb⟩
  replace bb := bb.trans (hb.mono (by first | omega | (simp; done) | (simp; omega)))
  have s_w3 : w2.heap.size + 0 ≤ w3.heap.size := by have := hb.size; first | omega | (simp at this; omega)
  clear hb
  rw [show sName 3 = ⟨#[115, 116, 111, 112, 112, 101, 100]⟩ from rfl]
  go_wp2_with fail
  refine (TA.out _).mono ?_
  rintro e w4 ⟨rfl, hb⟩
  replace bb := bb.trans (hb.mono (by first | omega | (simp; done) | (simp; omega)))
  have s_w4 : w3.heap.size + 0 ≤ w4.heap.size := by have := hb.size; first | omega | (simp at this; omega)
  clear hb
  go_wp2_with fail
  refine (TB.out _).mono ?_
  rintro e w5 ⟨rfl, hb⟩
  replace bb := bb.trans (hb.mono (by first | omega | (simp; done) | (simp; omega)))
  have s_w5 : w4.heap.size + 0 ≤ w5.heap.size := by have := hb.size; first | omega | (simp at this; omega)
  clear hb
  go_wp2_with fail
  refine (SA.out _).mono ?_
  rintro e w6 ⟨rfl, hb⟩
  replace bb := bb.trans (hb.mono (by first | omega | (simp; done) | (simp; omega)))
  have s_w6 : w5.heap.size + 0 ≤ w6.heap.size := by have := hb.size; first | omega | (simp at this; omega)
  clear hb
  go_wp2_with fail
  refine (SB.out _).mono ?_
  rintro e w7 ⟨rfl, hb⟩
  replace bb := bb.trans (hb.mono (by first | omega | (simp; done) | (simp; omega)))
  have s_w7 : w6.heap.size + 0 ≤ w7.heap.size := by have := hb.size; first | omega | (simp at this; omega)
  clear hb
  go_wp2_with fail
  go_ret
  exact ⟨rfl, bb⟩

set_option maxRecDepth 100000 in
set_option maxHeartbeats 400000 in
theorem EntryNames_a3 (a b : Int) (w : World) (h1 : a < 0) :
    Calls Try.prog 11 #[.int .i64 a, .int .i64 b] w fun e w' => e = .returned (.bool true) ∧ Below w.heap.size w w' := by
  obtain ⟨q, hq⟩ : ∃ q, (a == b) = q := ⟨_, rfl⟩
  have f1 : (tName a).toList.isEmpty = true := by rw [tName_out a (by omega), ByteArray.toList_eq]; rfl
  have f2 : (sName a).toList.isEmpty = true := by rw [sName_out a (by omega), ByteArray.toList_eq]; rfl
  have TA := Lib.hid (fun w => entry_TypeName a w)
  have TB := Lib.hid (fun w => entry_TypeName b w)
  have SA := Lib.hid (fun w => entry_StateName a w)
  have SB := Lib.hid (fun w => entry_StateName b w)
  generalize tName a = sa at *
  generalize tName b = sb at *
  generalize sName a = ua at *
  generalize sName b = ub at *
  have bb : Below w.heap.size w w := Below.refl _ _
  go_enter Try.func11, Try.ntmps11
  go_wp2_with fail
  refine (entry_head _).mono ?_
  rintro e w1 ⟨rfl, hb⟩
  replace bb := bb.trans (hb.mono (by first | omega | (simp; done) | (simp; omega)))
  have s_w1 : w.heap.size + 0 ≤ w1.heap.size := by have := hb.size; first | omega | (simp at this; omega)
  clear hb
  go_wp2_with fail
  refine (entry_TypeName 6 _).mono ?_
  rintro e w2 ⟨rfl, hb⟩
  replace bb := bb.trans (hb.mono (by first | omega | (simp; done) | (simp; omega)))
  have s_w2 : w1.heap.size + 0 ≤ w2.heap.size := by have := hb.size; first | omega | (simp at this; omega)
  clear hb
  rw [show tName 6 = ⟨#[115, 112, 97, 114, 101]⟩ from rfl]
  go_wp2_with fail
  refine (entry_StateName 3 _).mono ?_
  rintro e w3 ⟨rfl, hb⟩
  replace bb := bb.trans (hb.mono (by first | omega | (simp; done) | (simp; omega)))
  have s_w3 : w2.heap.size + 0 ≤ w3.heap.size := by have := hb.size; first | omega | (simp at this; omega)
  clear hb
  rw [show sName 3 = ⟨#[115, 116, 111, 112, 112, 101, 100]⟩ from rfl]
  go_wp2_with fail
  refine (TA.out _).mono ?_
  rintro e w4 ⟨rfl, hb⟩
  replace bb := bb.trans (hb.mono (by first | omega | (simp; done) | (simp; omega)))
  have s_w4 : w3.heap.size + 0 ≤ w4.heap.size := by have := hb.size; first | omega | (simp at this; omega)
  clear hb
  go_wp2_with fail
  refine (TB.out _).mono ?_
  rintro e w5 ⟨rfl, hb⟩
  replace bb := bb.trans (hb.mono (by first | omega | (simp; done) | (simp; omega)))
  have s_w5 : w4.heap.size + 0 ≤ w5.heap.size := by have := hb.size; first | omega | (simp at this; omega)
  clear hb
  go_wp2_with fail
  refine (SA.out _).mono ?_
  rintro e w6 ⟨rfl, hb⟩
  replace bb := bb.trans (hb.mono (by first | omega | (simp; done) | (simp; omega)))
  have s_w6 : w5.heap.size + 0 ≤ w6.heap.size := by have := hb.size; first | omega | (simp at this; omega)
  clear hb
  go_wp2_with fail
  refine (SB.out _).mono ?_
  rintro e w7 ⟨rfl, hb⟩
  replace bb := bb.trans (hb.mono (by first | omega | (simp; done) | (simp; omega)))
  have s_w7 : w6.heap.size + 0 ≤ w7.heap.size := by have := hb.size; first | omega | (simp at this; omega)
  clear hb
  go_wp2_with fail
  go_ret
  exact ⟨rfl, bb⟩

set_option maxRecDepth 100000 in
set_option maxHeartbeats 400000 in
theorem EntryNames_a4 (a b : Int) (w : World) (h1 : 7 ≤ a) :
    Calls Try.prog 11 #[.int .i64 a, .int .i64 b] w fun e w' => e = .returned (.bool true) ∧ Below w.heap.size w w' := by
  obtain ⟨q, hq⟩ : ∃ q, (a == b) = q := ⟨_, rfl⟩
  have f1 : (tName a).toList.isEmpty = true := by rw [tName_out a (by omega), ByteArray.toList_eq]; rfl
  have f2 : (sName a).toList.isEmpty = true := by rw [sName_out a (by omega), ByteArray.toList_eq]; rfl
  have l1 : 6 < a := by omega
  have l2 : 3 < a := by omega
  have TA := Lib.hid (fun w => entry_TypeName a w)
  have TB := Lib.hid (fun w => entry_TypeName b w)
  have SA := Lib.hid (fun w => entry_StateName a w)
  have SB := Lib.hid (fun w => entry_StateName b w)
  generalize tName a = sa at *
  generalize tName b = sb at *
  generalize sName a = ua at *
  generalize sName b = ub at *
  have bb : Below w.heap.size w w := Below.refl _ _
  go_enter Try.func11, Try.ntmps11
  go_wp2_with fail
  refine (entry_head _).mono ?_
  rintro e w1 ⟨rfl, hb⟩
  replace bb := bb.trans (hb.mono (by first | omega | (simp; done) | (simp; omega)))
  have s_w1 : w.heap.size + 0 ≤ w1.heap.size := by have := hb.size; first | omega | (simp at this; omega)
  clear hb
  go_wp2_with fail
  refine (entry_TypeName 6 _).mono ?_
  rintro e w2 ⟨rfl, hb⟩
  replace bb := bb.trans (hb.mono (by first | omega | (simp; done) | (simp; omega)))
  have s_w2 : w1.heap.size + 0 ≤ w2.heap.size := by have := hb.size; first | omega | (simp at this; omega)
  clear hb
  rw [show tName 6 = ⟨#[115, 112, 97, 114, 101]⟩ from rfl]
  go_wp2_with fail
  refine (entry_StateName 3 _).mono ?_
  rintro e w3 ⟨rfl, hb⟩
  replace bb := bb.trans (hb.mono (by first | omega | (simp; done) | (simp; omega)))
  have s_w3 : w2.heap.size + 0 ≤ w3.heap.size := by have := hb.size; first | omega | (simp at this; omega)
  clear hb
  rw [show sName 3 = ⟨#[115, 116, 111, 112, 112, 101, 100]⟩ from rfl]
  go_wp2_with fail
  refine (TA.out _).mono ?_
  rintro e w4 ⟨rfl, hb⟩
  replace bb := bb.trans (hb.mono (by first | omega | (simp; done) | (simp; omega)))
  have s_w4 : w3.heap.size + 0 ≤ w4.heap.size := by have := hb.size; first | omega | (simp at this; omega)
  clear hb
  go_wp2_with fail
  refine (TB.out _).mono ?_
  rintro e w5 ⟨rfl, hb⟩
  replace bb := bb.trans (hb.mono (by first | omega | (simp; done) | (simp; omega)))
  have s_w5 : w4.heap.size + 0 ≤ w5.heap.size := by have := hb.size; first | omega | (simp at this; omega)
  clear hb
  go_wp2_with fail
  refine (SA.out _).mono ?_
  rintro e w6 ⟨rfl, hb⟩
  replace bb := bb.trans (hb.mono (by first | omega | (simp; done) | (simp; omega)))
  have s_w6 : w5.heap.size + 0 ≤ w6.heap.size := by have := hb.size; first | omega | (simp at this; omega)
  clear hb
  go_wp2_with fail
  refine (SB.out _).mono ?_
  rintro e w7 ⟨rfl, hb⟩
  replace bb := bb.trans (hb.mono (by first | omega | (simp; done) | (simp; omega)))
  have s_w7 : w6.heap.size + 0 ≤ w7.heap.size := by have := hb.size; first | omega | (simp at this; omega)
  clear hb
  go_wp2_with fail
  go_ret
  exact ⟨rfl, bb⟩

theorem EntryNames_walk (a b : Int) (w : World) :
    Calls Try.prog 11 #[.int .i64 a, .int .i64 b] w fun e w' => e = .returned (.bool true) ∧ Below w.heap.size w w' := by
  by_cases h1 : a < 0
  · exact EntryNames_a3 a b w h1
  by_cases h2 : 7 ≤ a
  · exact EntryNames_a4 a b w h2
  by_cases h3 : a < 4
  · exact EntryNames_a1 a b w (by omega) h3
  · exact EntryNames_a2 a b w (by omega) (by omega)
end Go.Proofs.Ytmmejomalfjcnaa
