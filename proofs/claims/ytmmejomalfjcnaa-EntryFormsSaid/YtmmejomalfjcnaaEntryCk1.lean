/- entry.Check at a space, the first half. No condition beyond the arguments' types. -/
import Derived.Test.YtmmejomalfjcnaaEntryDefs
namespace Go.Proofs.Ytmmejomalfjcnaa
open Go.RowKit
set_option linter.unusedVariables false
set_option maxRecDepth 100000 in
set_option maxHeartbeats 1000000 in
theorem entry_Check_y1 (ow r s : Int) (en : Bool) (w : World) (i2 : I64 ow) (i3 : I64 r) (i4 : I64 s) (ko : pg ow) (kr : pg r) (ks : 1 ≤ s) (ks2 : s ≤ 3) (ke : en = false) :
    Calls Try.prog 25 #[.agg #[.int .i64 1, .int .i64 ow, .int .i64 r, .int .i64 s, .bool en]] w fun e w' => e = .returned (.int .i64 0) ∧ Below w.heap.size w w' := by
  have l1 : 0 < s := by omega
  have l2 : s < 4 := by omega
  have HO := Lib.hid (fun w => entry_page ow true w (by simp [*]))
  have HR := Lib.hid (fun w => entry_page r true w (by simp [*]))
  have HE := fun w => ent_eq (t := 1) (en := en) (t' := 1) (ow' := ow) (r' := r) (s' := s) (en' := false) (by decide) i2 i3 i4 (by decide) i2 i3 i4 true (by simp [*]) w
  clear i2 i3 i4 ko kr ks ks2 ke
  go_enter Try.func25, Try.ntmps25
  go_wp2_with (first | fail | (go_at_call 57; refine (HO.out _).mono ?_; rintro e w1 ⟨rfl, rfl⟩) | (go_at_call 57; refine (HR.out _).mono ?_; rintro e w1 ⟨rfl, rfl⟩))
  go_region
  all_goals go_wp2_with (first | fail | (go_at_call 57; refine (HO.out _).mono ?_; rintro e w1 ⟨rfl, rfl⟩) | (go_at_call 57; refine (HR.out _).mono ?_; rintro e w1 ⟨rfl, rfl⟩))
  all_goals go_ret
  all_goals exact ⟨rfl, (by repeat' (first | (with_reducible exact Below.refl _ _) | (with_reducible assumption) | (with_reducible refine below_setRow ?_ ?_ _) | (with_reducible refine Below.alloc ?_ ?_ _) | (with_reducible refine below_drewN ?_ _) | (with_reducible refine Below.drew ?_) | (with_reducible refine Below.setCell ?_ ?_ _) | omega | (simp; done) | (simp; omega)))⟩


set_option maxRecDepth 100000 in
set_option maxHeartbeats 1000000 in
theorem entry_Check_n1a (ow r s : Int) (en : Bool) (w : World) (i2 : I64 ow) (i3 : I64 r) (i4 : I64 s) (ko : ¬ pg ow) :
    Calls Try.prog 25 #[.agg #[.int .i64 1, .int .i64 ow, .int .i64 r, .int .i64 s, .bool en]] w fun e w' => e = .returned (.int .i64 110) ∧ Below w.heap.size w w' := by
  have HO := Lib.hid (fun w => entry_page ow false w (by simp [*]))
  clear i2 i3 i4 ko
  go_enter Try.func25, Try.ntmps25
  go_wp2_with (first | fail | (go_at_call 57; refine (HO.out _).mono ?_; rintro e w1 ⟨rfl, rfl⟩))
  go_region
  all_goals go_wp2_with (first | fail | (go_at_call 57; refine (HO.out _).mono ?_; rintro e w1 ⟨rfl, rfl⟩))
  all_goals go_ret
  all_goals exact ⟨rfl, (by repeat' (first | (with_reducible exact Below.refl _ _) | (with_reducible assumption) | (with_reducible refine below_setRow ?_ ?_ _) | (with_reducible refine Below.alloc ?_ ?_ _) | (with_reducible refine below_drewN ?_ _) | (with_reducible refine Below.drew ?_) | (with_reducible refine Below.setCell ?_ ?_ _) | omega | (simp; done) | (simp; omega)))⟩


set_option maxRecDepth 100000 in
set_option maxHeartbeats 1000000 in
theorem entry_Check_n1b (ow r s : Int) (en : Bool) (w : World) (i2 : I64 ow) (i3 : I64 r) (i4 : I64 s) (ko : pg ow) (kr : ¬ pg r) :
    Calls Try.prog 25 #[.agg #[.int .i64 1, .int .i64 ow, .int .i64 r, .int .i64 s, .bool en]] w fun e w' => e = .returned (.int .i64 110) ∧ Below w.heap.size w w' := by
  have HO := Lib.hid (fun w => entry_page ow true w (by simp [*]))
  have HR := Lib.hid (fun w => entry_page r false w (by simp [*]))
  clear i2 i3 i4 ko kr
  go_enter Try.func25, Try.ntmps25
  go_wp2_with (first | fail | (go_at_call 57; refine (HO.out _).mono ?_; rintro e w1 ⟨rfl, rfl⟩) | (go_at_call 57; refine (HR.out _).mono ?_; rintro e w1 ⟨rfl, rfl⟩))
  go_region
  all_goals go_wp2_with (first | fail | (go_at_call 57; refine (HO.out _).mono ?_; rintro e w1 ⟨rfl, rfl⟩) | (go_at_call 57; refine (HR.out _).mono ?_; rintro e w1 ⟨rfl, rfl⟩))
  all_goals go_ret
  all_goals exact ⟨rfl, (by repeat' (first | (with_reducible exact Below.refl _ _) | (with_reducible assumption) | (with_reducible refine below_setRow ?_ ?_ _) | (with_reducible refine Below.alloc ?_ ?_ _) | (with_reducible refine below_drewN ?_ _) | (with_reducible refine Below.drew ?_) | (with_reducible refine Below.setCell ?_ ?_ _) | omega | (simp; done) | (simp; omega)))⟩

end Go.Proofs.Ytmmejomalfjcnaa
