/- The walk of the law EntryNames: for every two numbers it answers true and writes to nothing that was there. No condition beyond the arguments' types. -/
import Derived.Test.YtmmejomalfjcnaaEntryHead
namespace Go.Proofs.Ytmmejomalfjcnaa
open Go.RowKit
set_option linter.unusedVariables false

def tName (n : Int) : ByteArray :=
  if n = 0 then ⟨#[102, 114, 101, 101]⟩ else if n = 1 then ⟨#[115, 112, 97, 99, 101]⟩ else if n = 2 then ⟨#[116, 104, 114, 101, 97, 100]⟩ else if n = 3 then ⟨#[102, 105, 114, 115, 116]⟩ else if n = 4 then ⟨#[115, 101, 99, 111, 110, 100]⟩ else if n = 5 then ⟨#[100, 97, 116, 97]⟩ else if n = 6 then ⟨#[115, 112, 97, 114, 101]⟩ else ⟨#[]⟩
def sName (n : Int) : ByteArray :=
  if n = 0 then ⟨#[110, 111, 110, 101]⟩ else if n = 1 then ⟨#[105, 110, 105, 116]⟩ else if n = 2 then ⟨#[102, 105, 110, 97, 108]⟩ else if n = 3 then ⟨#[115, 116, 111, 112, 112, 101, 100]⟩ else ⟨#[]⟩

theorem entry_TypeName_0 (w : World) : Calls Try.prog 47 #[.int .i64 0] w fun e w' => e = .returned (.string ⟨#[102, 114, 101, 101]⟩) ∧ w = w' := by
  go_enter Try.func47, Try.ntmps47
  go_wp2
  go_ret
  exact ⟨rfl, rfl⟩

theorem entry_TypeName_1 (w : World) : Calls Try.prog 47 #[.int .i64 1] w fun e w' => e = .returned (.string ⟨#[115, 112, 97, 99, 101]⟩) ∧ w = w' := by
  go_enter Try.func47, Try.ntmps47
  go_wp2
  go_ret
  exact ⟨rfl, rfl⟩

theorem entry_TypeName_2 (w : World) : Calls Try.prog 47 #[.int .i64 2] w fun e w' => e = .returned (.string ⟨#[116, 104, 114, 101, 97, 100]⟩) ∧ w = w' := by
  go_enter Try.func47, Try.ntmps47
  go_wp2
  go_ret
  exact ⟨rfl, rfl⟩

theorem entry_TypeName_3 (w : World) : Calls Try.prog 47 #[.int .i64 3] w fun e w' => e = .returned (.string ⟨#[102, 105, 114, 115, 116]⟩) ∧ w = w' := by
  go_enter Try.func47, Try.ntmps47
  go_wp2
  go_ret
  exact ⟨rfl, rfl⟩

theorem entry_TypeName_4 (w : World) : Calls Try.prog 47 #[.int .i64 4] w fun e w' => e = .returned (.string ⟨#[115, 101, 99, 111, 110, 100]⟩) ∧ w = w' := by
  go_enter Try.func47, Try.ntmps47
  go_wp2
  go_ret
  exact ⟨rfl, rfl⟩

theorem entry_TypeName_5 (w : World) : Calls Try.prog 47 #[.int .i64 5] w fun e w' => e = .returned (.string ⟨#[100, 97, 116, 97]⟩) ∧ w = w' := by
  go_enter Try.func47, Try.ntmps47
  go_wp2
  go_ret
  exact ⟨rfl, rfl⟩

theorem entry_TypeName_6 (w : World) : Calls Try.prog 47 #[.int .i64 6] w fun e w' => e = .returned (.string ⟨#[115, 112, 97, 114, 101]⟩) ∧ w = w' := by
  go_enter Try.func47, Try.ntmps47
  go_wp2
  go_ret
  exact ⟨rfl, rfl⟩

theorem entry_TypeName_no (n : Int) (w : World) (h : n < 0 ∨ 7 ≤ n) : Calls Try.prog 47 #[.int .i64 n] w fun e w' => e = .returned (.string ⟨#[]⟩) ∧ w = w' := by
  have t0 : (n == 0) = false := by simp; omega
  have t1 : (n == 1) = false := by simp; omega
  have t2 : (n == 2) = false := by simp; omega
  have t3 : (n == 3) = false := by simp; omega
  have t4 : (n == 4) = false := by simp; omega
  have t5 : (n == 5) = false := by simp; omega
  have t6 : (n == 6) = false := by simp; omega
  clear h
  go_enter Try.func47, Try.ntmps47
  go_wp2
  go_ret
  exact ⟨rfl, rfl⟩

theorem entry_TypeName (n : Int) (w : World) : Calls Try.prog 47 #[.int .i64 n] w fun e w' => e = .returned (.string (tName n)) ∧ Below w.heap.size w w' := by
  suffices h : Calls Try.prog 47 #[.int .i64 n] w fun e w' => e = .returned (.string (tName n)) ∧ w = w' from h.mono fun _ _ h => ⟨h.1, by rw [← h.2]; exact Below.refl _ _⟩
  by_cases h : n < 0 ∨ 7 ≤ n
  · have e : tName n = ⟨#[]⟩ := by unfold tName; rw [if_neg (by omega), if_neg (by omega), if_neg (by omega), if_neg (by omega), if_neg (by omega), if_neg (by omega), if_neg (by omega)]
    rw [e]
    exact entry_TypeName_no n w h
  · have : n = 0 ∨ n = 1 ∨ n = 2 ∨ n = 3 ∨ n = 4 ∨ n = 5 ∨ n = 6 := by omega
    rcases this with rfl | rfl | rfl | rfl | rfl | rfl | rfl
    · exact entry_TypeName_0 w
    · exact entry_TypeName_1 w
    · exact entry_TypeName_2 w
    · exact entry_TypeName_3 w
    · exact entry_TypeName_4 w
    · exact entry_TypeName_5 w
    · exact entry_TypeName_6 w

theorem entry_StateName_0 (w : World) : Calls Try.prog 48 #[.int .i64 0] w fun e w' => e = .returned (.string ⟨#[110, 111, 110, 101]⟩) ∧ w = w' := by
  go_enter Try.func48, Try.ntmps48
  go_wp2
  go_ret
  exact ⟨rfl, rfl⟩

theorem entry_StateName_1 (w : World) : Calls Try.prog 48 #[.int .i64 1] w fun e w' => e = .returned (.string ⟨#[105, 110, 105, 116]⟩) ∧ w = w' := by
  go_enter Try.func48, Try.ntmps48
  go_wp2
  go_ret
  exact ⟨rfl, rfl⟩

theorem entry_StateName_2 (w : World) : Calls Try.prog 48 #[.int .i64 2] w fun e w' => e = .returned (.string ⟨#[102, 105, 110, 97, 108]⟩) ∧ w = w' := by
  go_enter Try.func48, Try.ntmps48
  go_wp2
  go_ret
  exact ⟨rfl, rfl⟩

theorem entry_StateName_3 (w : World) : Calls Try.prog 48 #[.int .i64 3] w fun e w' => e = .returned (.string ⟨#[115, 116, 111, 112, 112, 101, 100]⟩) ∧ w = w' := by
  go_enter Try.func48, Try.ntmps48
  go_wp2
  go_ret
  exact ⟨rfl, rfl⟩

theorem entry_StateName_no (n : Int) (w : World) (h : n < 0 ∨ 4 ≤ n) : Calls Try.prog 48 #[.int .i64 n] w fun e w' => e = .returned (.string ⟨#[]⟩) ∧ w = w' := by
  have t0 : (n == 0) = false := by simp; omega
  have t1 : (n == 1) = false := by simp; omega
  have t2 : (n == 2) = false := by simp; omega
  have t3 : (n == 3) = false := by simp; omega
  clear h
  go_enter Try.func48, Try.ntmps48
  go_wp2
  go_ret
  exact ⟨rfl, rfl⟩

theorem entry_StateName (n : Int) (w : World) : Calls Try.prog 48 #[.int .i64 n] w fun e w' => e = .returned (.string (sName n)) ∧ Below w.heap.size w w' := by
  suffices h : Calls Try.prog 48 #[.int .i64 n] w fun e w' => e = .returned (.string (sName n)) ∧ w = w' from h.mono fun _ _ h => ⟨h.1, by rw [← h.2]; exact Below.refl _ _⟩
  by_cases h : n < 0 ∨ 4 ≤ n
  · have e : sName n = ⟨#[]⟩ := by unfold sName; rw [if_neg (by omega), if_neg (by omega), if_neg (by omega), if_neg (by omega)]
    rw [e]
    exact entry_StateName_no n w h
  · have : n = 0 ∨ n = 1 ∨ n = 2 ∨ n = 3 := by omega
    rcases this with rfl | rfl | rfl | rfl
    · exact entry_StateName_0 w
    · exact entry_StateName_1 w
    · exact entry_StateName_2 w
    · exact entry_StateName_3 w
end Go.Proofs.Ytmmejomalfjcnaa
