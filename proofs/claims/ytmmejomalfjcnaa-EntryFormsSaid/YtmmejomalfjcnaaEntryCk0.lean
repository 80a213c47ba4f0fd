/- entry.Check at every type but a space. No condition beyond the arguments' types. -/
import Derived.Test.YtmmejomalfjcnaaEntryDefs
namespace Go.Proofs.Ytmmejomalfjcnaa
open Go.RowKit
set_option linter.unusedVariables false
set_option maxRecDepth 100000 in
set_option maxHeartbeats 1000000 in
theorem entry_Check_y0 (ow r s : Int) (en : Bool) (w : World) (i2 : I64 ow) (i3 : I64 r) (i4 : I64 s) (kw : ow = 0) (kr : r = 0) (ks : s = 0) (ke : en = false) :
    Calls Try.prog 25 #[.agg #[.int .i64 0, .int .i64 ow, .int .i64 r, .int .i64 s, .bool en]] w fun e w' => e = .returned (.int .i64 0) ∧ Below w.heap.size w w' := by
  have HE := fun w => ent_eq (t := 0) (en := en) (t' := 0) (ow' := 0) (r' := 0) (s' := 0) (en' := false) (by decide) i2 i3 i4 (by decide) (by decide) (by decide) (by decide) true (by simp [*]) w
  clear i2 i3 i4 kw kr ks ke
  go_enter Try.func25, Try.ntmps25
  go_wp2_with (first | fail)
  go_ret
  exact ⟨rfl, (by repeat' (first | (with_reducible exact Below.refl _ _) | (with_reducible assumption) | (with_reducible refine below_setRow ?_ ?_ _) | (with_reducible refine Below.alloc ?_ ?_ _) | (with_reducible refine below_drewN ?_ _) | (with_reducible refine Below.drew ?_) | (with_reducible refine Below.setCell ?_ ?_ _) | omega | (simp; done) | (simp; omega)))⟩


set_option maxRecDepth 100000 in
set_option maxHeartbeats 1000000 in
theorem entry_Check_n0 (ow r s : Int) (en : Bool) (w : World) (i2 : I64 ow) (i3 : I64 r) (i4 : I64 s) (kn : ¬ (ow = 0 ∧ r = 0 ∧ s = 0 ∧ en = false)) :
    Calls Try.prog 25 #[.agg #[.int .i64 0, .int .i64 ow, .int .i64 r, .int .i64 s, .bool en]] w fun e w' => e = .returned (.int .i64 110) ∧ Below w.heap.size w w' := by
  have HE := fun w => ent_eq (t := 0) (en := en) (t' := 0) (ow' := 0) (r' := 0) (s' := 0) (en' := false) (by decide) i2 i3 i4 (by decide) (by decide) (by decide) (by decide) false (by simpa using kn) w
  clear i2 i3 i4 kn
  go_enter Try.func25, Try.ntmps25
  go_wp2_with (first | fail)
  go_ret
  exact ⟨rfl, (by repeat' (first | (with_reducible exact Below.refl _ _) | (with_reducible assumption) | (with_reducible refine below_setRow ?_ ?_ _) | (with_reducible refine Below.alloc ?_ ?_ _) | (with_reducible refine below_drewN ?_ _) | (with_reducible refine Below.drew ?_) | (with_reducible refine Below.setCell ?_ ?_ _) | omega | (simp; done) | (simp; omega)))⟩


set_option maxRecDepth 100000 in
set_option maxHeartbeats 1000000 in
theorem entry_Check_y2 (ow r s : Int) (en : Bool) (w : World) (i2 : I64 ow) (i3 : I64 r) (i4 : I64 s) (ko : pg ow) (kr : r = 0) (ks : s = 0) :
    Calls Try.prog 25 #[.agg #[.int .i64 2, .int .i64 ow, .int .i64 r, .int .i64 s, .bool en]] w fun e w' => e = .returned (.int .i64 0) ∧ Below w.heap.size w w' := by
  have HO := Lib.hid (fun w => entry_page ow true w (by simp [*]))
  have HE := fun w => ent_eq (t := 2) (en := en) (t' := 2) (ow' := ow) (r' := 0) (s' := 0) (en' := en) (by decide) i2 i3 i4 (by decide) i2 (by decide) (by decide) true (by simp [*]) w
  clear i2 i3 i4 ko kr ks
  go_enter Try.func25, Try.ntmps25
  go_wp2_with (first | fail | (go_at_call 57; refine (HO.out _).mono ?_; rintro e w1 ⟨rfl, rfl⟩))
  go_ret
  exact ⟨rfl, (by repeat' (first | (with_reducible exact Below.refl _ _) | (with_reducible assumption) | (with_reducible refine below_setRow ?_ ?_ _) | (with_reducible refine Below.alloc ?_ ?_ _) | (with_reducible refine below_drewN ?_ _) | (with_reducible refine Below.drew ?_) | (with_reducible refine Below.setCell ?_ ?_ _) | omega | (simp; done) | (simp; omega)))⟩


set_option maxRecDepth 100000 in
set_option maxHeartbeats 1000000 in
theorem entry_Check_n2a (ow r s : Int) (en : Bool) (w : World) (i2 : I64 ow) (i3 : I64 r) (i4 : I64 s) (ko : ¬ pg ow) :
    Calls Try.prog 25 #[.agg #[.int .i64 2, .int .i64 ow, .int .i64 r, .int .i64 s, .bool en]] w fun e w' => e = .returned (.int .i64 110) ∧ Below w.heap.size w w' := by
  have HO := Lib.hid (fun w => entry_page ow false w (by simp [*]))
  clear i2 i3 i4 ko
  go_enter Try.func25, Try.ntmps25
  go_wp2_with (first | fail | (go_at_call 57; refine (HO.out _).mono ?_; rintro e w1 ⟨rfl, rfl⟩))
  go_ret
  exact ⟨rfl, (by repeat' (first | (with_reducible exact Below.refl _ _) | (with_reducible assumption) | (with_reducible refine below_setRow ?_ ?_ _) | (with_reducible refine Below.alloc ?_ ?_ _) | (with_reducible refine below_drewN ?_ _) | (with_reducible refine Below.drew ?_) | (with_reducible refine Below.setCell ?_ ?_ _) | omega | (simp; done) | (simp; omega)))⟩


set_option maxRecDepth 100000 in
set_option maxHeartbeats 1000000 in
theorem entry_Check_n2b (ow r s : Int) (en : Bool) (w : World) (i2 : I64 ow) (i3 : I64 r) (i4 : I64 s) (ko : pg ow) (kn : ¬ (r = 0 ∧ s = 0)) :
    Calls Try.prog 25 #[.agg #[.int .i64 2, .int .i64 ow, .int .i64 r, .int .i64 s, .bool en]] w fun e w' => e = .returned (.int .i64 110) ∧ Below w.heap.size w w' := by
  have HO := Lib.hid (fun w => entry_page ow true w (by simp [*]))
  have HE := fun w => ent_eq (t := 2) (en := en) (t' := 2) (ow' := ow) (r' := 0) (s' := 0) (en' := en) (by decide) i2 i3 i4 (by decide) i2 (by decide) (by decide) false (by simpa using kn) w
  clear i2 i3 i4 ko kn
  go_enter Try.func25, Try.ntmps25
  go_wp2_with (first | fail | (go_at_call 57; refine (HO.out _).mono ?_; rintro e w1 ⟨rfl, rfl⟩))
  go_ret
  exact ⟨rfl, (by repeat' (first | (with_reducible exact Below.refl _ _) | (with_reducible assumption) | (with_reducible refine below_setRow ?_ ?_ _) | (with_reducible refine Below.alloc ?_ ?_ _) | (with_reducible refine below_drewN ?_ _) | (with_reducible refine Below.drew ?_) | (with_reducible refine Below.setCell ?_ ?_ _) | omega | (simp; done) | (simp; omega)))⟩


set_option maxRecDepth 100000 in
set_option maxHeartbeats 1000000 in
theorem entry_Check_y3 (t ow r s : Int) (en : Bool) (w : World) (i1 : I64 t) (i2 : I64 ow) (i3 : I64 r) (i4 : I64 s) (t3 : 3 ≤ t) (t6 : t ≤ 6) (ko : pg ow) (kr : r = 0) (ks : s = 0) (ke : en = false) :
    Calls Try.prog 25 #[.agg #[.int .i64 t, .int .i64 ow, .int .i64 r, .int .i64 s, .bool en]] w fun e w' => e = .returned (.int .i64 0) ∧ Below w.heap.size w w' := by
  have t0 : (t != 0) = true := by simp; omega
  have t1 : (t == 1) = false := by simp; omega
  have t2 : (t == 2) = false := by simp; omega
  have HO := Lib.hid (fun w => entry_page ow true w (by simp [*]))
  have HE := fun w => ent_eq (t := t) (en := en) (t' := t) (ow' := ow) (r' := 0) (s' := 0) (en' := false) i1 i2 i3 i4 i1 i2 (by decide) (by decide) true (by simp [*]) w
  clear i1 i2 i3 i4 ko kr ks ke
  go_enter Try.func25, Try.ntmps25
  go_wp2_with (first | fail | (go_at_call 57; refine (HO.out _).mono ?_; rintro e w1 ⟨rfl, rfl⟩))
  go_ret
  exact ⟨rfl, (by repeat' (first | (with_reducible exact Below.refl _ _) | (with_reducible assumption) | (with_reducible refine below_setRow ?_ ?_ _) | (with_reducible refine Below.alloc ?_ ?_ _) | (with_reducible refine below_drewN ?_ _) | (with_reducible refine Below.drew ?_) | (with_reducible refine Below.setCell ?_ ?_ _) | omega | (simp; done) | (simp; omega)))⟩


set_option maxRecDepth 100000 in
set_option maxHeartbeats 1000000 in
theorem entry_Check_n3a (t ow r s : Int) (en : Bool) (w : World) (i1 : I64 t) (i2 : I64 ow) (i3 : I64 r) (i4 : I64 s) (t3 : 3 ≤ t) (t6 : t ≤ 6) (ko : ¬ pg ow) :
    Calls Try.prog 25 #[.agg #[.int .i64 t, .int .i64 ow, .int .i64 r, .int .i64 s, .bool en]] w fun e w' => e = .returned (.int .i64 110) ∧ Below w.heap.size w w' := by
  have t0 : (t != 0) = true := by simp; omega
  have t1 : (t == 1) = false := by simp; omega
  have t2 : (t == 2) = false := by simp; omega
  have HO := Lib.hid (fun w => entry_page ow false w (by simp [*]))
  clear i1 i2 i3 i4 ko
  go_enter Try.func25, Try.ntmps25
  go_wp2_with (first | fail | (go_at_call 57; refine (HO.out _).mono ?_; rintro e w1 ⟨rfl, rfl⟩))
  go_ret
  exact ⟨rfl, (by repeat' (first | (with_reducible exact Below.refl _ _) | (with_reducible assumption) | (with_reducible refine below_setRow ?_ ?_ _) | (with_reducible refine Below.alloc ?_ ?_ _) | (with_reducible refine below_drewN ?_ _) | (with_reducible refine Below.drew ?_) | (with_reducible refine Below.setCell ?_ ?_ _) | omega | (simp; done) | (simp; omega)))⟩


set_option maxRecDepth 100000 in
set_option maxHeartbeats 1000000 in
theorem entry_Check_n3b (t ow r s : Int) (en : Bool) (w : World) (i1 : I64 t) (i2 : I64 ow) (i3 : I64 r) (i4 : I64 s) (t3 : 3 ≤ t) (t6 : t ≤ 6) (ko : pg ow) (kn : ¬ (r = 0 ∧ s = 0 ∧ en = false)) :
    Calls Try.prog 25 #[.agg #[.int .i64 t, .int .i64 ow, .int .i64 r, .int .i64 s, .bool en]] w fun e w' => e = .returned (.int .i64 110) ∧ Below w.heap.size w w' := by
  have t0 : (t != 0) = true := by simp; omega
  have t1 : (t == 1) = false := by simp; omega
  have t2 : (t == 2) = false := by simp; omega
  have HO := Lib.hid (fun w => entry_page ow true w (by simp [*]))
  have HE := fun w => ent_eq (t := t) (en := en) (t' := t) (ow' := ow) (r' := 0) (s' := 0) (en' := false) i1 i2 i3 i4 i1 i2 (by decide) (by decide) false (by simpa using kn) w
  clear i1 i2 i3 i4 ko kn
  go_enter Try.func25, Try.ntmps25
  go_wp2_with (first | fail | (go_at_call 57; refine (HO.out _).mono ?_; rintro e w1 ⟨rfl, rfl⟩))
  go_ret
  exact ⟨rfl, (by repeat' (first | (with_reducible exact Below.refl _ _) | (with_reducible assumption) | (with_reducible refine below_setRow ?_ ?_ _) | (with_reducible refine Below.alloc ?_ ?_ _) | (with_reducible refine below_drewN ?_ _) | (with_reducible refine Below.drew ?_) | (with_reducible refine Below.setCell ?_ ?_ _) | omega | (simp; done) | (simp; omega)))⟩


set_option maxRecDepth 100000 in
set_option maxHeartbeats 1000000 in
theorem entry_Check_lo (t ow r s : Int) (en : Bool) (w : World) (i1 : I64 t) (i2 : I64 ow) (i3 : I64 r) (i4 : I64 s) (t3 : t < 0) :
    Calls Try.prog 25 #[.agg #[.int .i64 t, .int .i64 ow, .int .i64 r, .int .i64 s, .bool en]] w fun e w' => e = .returned (.int .i64 110) ∧ Below w.heap.size w w' := by
  have t0 : (t != 0) = true := by simp; omega
  have t1 : (t == 1) = false := by simp; omega
  have t2 : (t == 2) = false := by simp; omega
  clear i1 i2 i3 i4
  go_enter Try.func25, Try.ntmps25
  go_wp2_with (first | fail)
  go_ret
  exact ⟨rfl, (by repeat' (first | (with_reducible exact Below.refl _ _) | (with_reducible assumption) | (with_reducible refine below_setRow ?_ ?_ _) | (with_reducible refine Below.alloc ?_ ?_ _) | (with_reducible refine below_drewN ?_ _) | (with_reducible refine Below.drew ?_) | (with_reducible refine Below.setCell ?_ ?_ _) | omega | (simp; done) | (simp; omega)))⟩


set_option maxRecDepth 100000 in
set_option maxHeartbeats 1000000 in
theorem entry_Check_hi (t ow r s : Int) (en : Bool) (w : World) (i1 : I64 t) (i2 : I64 ow) (i3 : I64 r) (i4 : I64 s) (t3 : 7 ≤ t) :
    Calls Try.prog 25 #[.agg #[.int .i64 t, .int .i64 ow, .int .i64 r, .int .i64 s, .bool en]] w fun e w' => e = .returned (.int .i64 110) ∧ Below w.heap.size w w' := by
  have t0 : (t != 0) = true := by simp; omega
  have t1 : (t == 1) = false := by simp; omega
  have t2 : (t == 2) = false := by simp; omega
  clear i1 i2 i3 i4
  go_enter Try.func25, Try.ntmps25
  go_wp2_with (first | fail)
  go_ret
  exact ⟨rfl, (by repeat' (first | (with_reducible exact Below.refl _ _) | (with_reducible assumption) | (with_reducible refine below_setRow ?_ ?_ _) | (with_reducible refine Below.alloc ?_ ?_ _) | (with_reducible refine below_drewN ?_ _) | (with_reducible refine Below.drew ?_) | (with_reducible refine Below.setCell ?_ ?_ _) | omega | (simp; done) | (simp; omega)))⟩

end Go.Proofs.Ytmmejomalfjcnaa
