/- The law EntryAll. No condition beyond the arguments' types. -/
import Derived.Test.YtmmejomalfjcnaaDoorEnA
namespace Go.Proofs.YtmmejomalfjcnaaDoor
open Go.RowKit Sx
set_option linter.unusedVariables false
set_option linter.unusedSimpArgs false
set_option maxRecDepth 100000
set_option maxHeartbeats 1000000
theorem strEq_self (s : ByteArray) : strEq s s = true := by unfold strEq; simp
theorem enc_one : goodB 1 5 2 2 false = true := by decide
theorem chk_one : chkE 1 5 2 2 false = 0 := by decide
theorem word_one : wordE 1 5 2 false = 327713 := by decide
noncomputable def pt_enh : List (Nat × (List SV → Option (List Prop × SV))) := [(6, c_Encode)]
theorem pt_enh_ok : PureOK Tryd.prog (fun f => List.lookup f pt_enh) := pure_list pt_enh ⟨c_Encode_e, trivial⟩
noncomputable abbrev cx_enh (must : Nat → Option Bool := fun _ => none) (loop : Nat → Option LoopSpec := fun _ => none) : Ctx := ⟨tab, inl tab (fun f => List.lookup f pt_enh) fns (fun _ => {}) 1000 4, fun f => List.lookup f pt_enh, must, loop, 0, 0⟩
theorem cx_enh_ok (must : Nat → Option Bool) (loop : Nat → Option LoopSpec) : CxOK Tryd.prog (cx_enh must loop) := inl_ok mixed tab_ok pt_enh_ok fns_ok 4 _ _ _ _
theorem headE_ok   : PureSem Tryd.prog 4 [] (.bool true) := by
  refine pure_intro mixed (cx_enh_ok (fun _ => none) (fun _ => none)) Tryd.func4 1000 rfl rfl ?_
  refine of_nf (p := (true = true → true = true) ∧ (true = false → false = true)) (by kernel_rfl) ?_
  simp [chk_one, enc_one, word_one, zB]
def c_headE : List SV → Option (List Prop × SV)
  | [] => some ([], .bool true)
  | _ => none
theorem c_headE_e : PEntry Tryd.prog 4 c_headE := by
  refine ⟨callFunc_ok Tryd.func4 (by kernel_rfl) (by kernel_rfl), fun args ps v h hp => ?_⟩
  unfold c_headE at h
  split at h
  · cases h; exact headE_ok  
  · cases h
noncomputable def pt_eng : List (Nat × (List SV → Option (List Prop × SV))) := []
theorem pt_eng_ok : PureOK Tryd.prog (fun f => List.lookup f pt_eng) := pure_list pt_eng trivial
noncomputable abbrev cx_eng (must : Nat → Option Bool := fun _ => none) (loop : Nat → Option LoopSpec := fun _ => none) : Ctx := ⟨tab, inl tab (fun f => List.lookup f pt_eng) fns (fun _ => {}) 1000 4, fun f => List.lookup f pt_eng, must, loop, 0, 0⟩
theorem cx_eng_ok (must : Nat → Option Bool) (loop : Nat → Option LoopSpec) : CxOK Tryd.prog (cx_eng must loop) := inl_ok mixed tab_ok pt_eng_ok fns_ok 4 _ _ _ _
theorem givenE_ok (t o r s : Int) (n : Bool)  : PureSem Tryd.prog 7 [.agg [.int .i64 t, .int .i64 o, .int .i64 r, .int .i64 s, .bool n]] (.agg [.int .i64 t, .int .i64 o, .int .i64 r, .int .i64 s, .bool n]) := by
  refine pure_intro mixed (cx_eng_ok (fun _ => none) (fun _ => none)) Tryd.func7 1000 rfl rfl ?_
  refine of_nf (p := t = t ∧ o = o ∧ r = r ∧ s = s ∧ n = n ∧ True) (by kernel_rfl) ?_
  simp
def c_givenE : List SV → Option (List Prop × SV)
  | [.agg [.int .i64 t, .int .i64 o, .int .i64 r, .int .i64 s, .bool n]] => some ([], .agg [.int .i64 t, .int .i64 o, .int .i64 r, .int .i64 s, .bool n])
  | _ => none
theorem c_givenE_e : PEntry Tryd.prog 7 c_givenE := by
  refine ⟨callFunc_ok Tryd.func7 (by kernel_rfl) (by kernel_rfl), fun args ps v h hp => ?_⟩
  unfold c_givenE at h
  split at h
  · cases h; exact givenE_ok _ _ _ _ _ 
  · cases h
theorem toldE_ok (t o r s : Int) (n : Bool)  : PureSem Tryd.prog 12 [.agg [.int .i64 t, .int .i64 o, .int .i64 r, .int .i64 s, .bool n]] (.agg [.int .i64 t, .int .i64 o, .int .i64 r, .int .i64 s, .bool n]) := by
  refine pure_intro mixed (cx_eng_ok (fun _ => none) (fun _ => none)) Tryd.func12 1000 rfl rfl ?_
  refine of_nf (p := t = t ∧ o = o ∧ r = r ∧ s = s ∧ n = n ∧ True) (by kernel_rfl) ?_
  simp
def c_toldE : List SV → Option (List Prop × SV)
  | [.agg [.int .i64 t, .int .i64 o, .int .i64 r, .int .i64 s, .bool n]] => some ([], .agg [.int .i64 t, .int .i64 o, .int .i64 r, .int .i64 s, .bool n])
  | _ => none
theorem c_toldE_e : PEntry Tryd.prog 12 c_toldE := by
  refine ⟨callFunc_ok Tryd.func12 (by kernel_rfl) (by kernel_rfl), fun args ps v h hp => ?_⟩
  unfold c_toldE at h
  split at h
  · cases h; exact toldE_ok _ _ _ _ _ 
  · cases h
noncomputable def pt_enl : List (Nat × (List SV → Option (List Prop × SV))) := [(7, c_givenE), (12, c_toldE), (4, c_headE), (8, c_Check), (9, c_RCheck), (6, c_Encode), (5, c_REncode), (11, c_Decode), (10, c_RDecode), (13, c_TypeName), (15, c_StateName), (14, c_RTypeName), (16, c_RStateName)]
theorem pt_enl_ok : PureOK Tryd.prog (fun f => List.lookup f pt_enl) := pure_list pt_enl ⟨c_givenE_e, c_toldE_e, c_headE_e, c_Check_e, c_RCheck_e, c_Encode_e, c_REncode_e, c_Decode_e, c_RDecode_e, c_TypeName_e, c_StateName_e, c_RTypeName_e, c_RStateName_e, trivial⟩
noncomputable abbrev cx_enl (must : Nat → Option Bool := fun _ => none) (loop : Nat → Option LoopSpec := fun _ => none) : Ctx := ⟨tab, inl tab (fun f => List.lookup f pt_enl) fns (fun _ => {}) 1000 4, fun f => List.lookup f pt_enl, must, loop, 0, 0⟩
theorem cx_enl_ok (must : Nat → Option Bool) (loop : Nat → Option LoopSpec) : CxOK Tryd.prog (cx_enl must loop) := inl_ok mixed tab_ok pt_enl_ok fns_ok 4 _ _ _ _
theorem EntryAllL_ok (t o r s : Int) (n : Bool) (w v k : Int) (h0 : InK .u32 w) (h1 : InK .u32 v) : PureSem Tryd.prog 3 [.agg [.int .i64 t, .int .i64 o, .int .i64 r, .int .i64 s, .bool n], .agg [.int .u32 w, .int .u32 v], .int .i64 k] (.bool true) := by
  refine pure_intro mixed (cx_enl_ok (fun _ => none) (fun _ => none)) Tryd.func3 1000 rfl rfl ?_
  refine of_nf (p := (false = true → false = true) ∧ (false = false → ((!(zB (goodB t o r s n) (wordE t o s n) == zB (goodB t o r s n) (wordE t o s n) && (zB (goodB t o r s n) r == zB (goodB t o r s n) r && true))) = false → ((chkE t o r s n != chkE t o r s n) = false → ((chkE t o r s n != chkE t o r s n) = true → false = true) ∧ ((chkE t o r s n != chkE t o r s n) = false → ((0 : Int) ≤ w ∧ w < (4294967296 : Int)) ∧ ((0 : Int) ≤ v ∧ v < (4294967296 : Int)) ∧ ((0 : Int) ≤ w ∧ w < (4294967296 : Int)) ∧ ((0 : Int) ≤ v ∧ v < (4294967296 : Int)) ∧ ((!(zB (okD w v) (w % (8 : Int)) == zB (okD w v) (w % (8 : Int)) && (zB (okD w v) (w / (65536 : Int) % (64 : Int)) == zB (okD w v) (w / (65536 : Int) % (64 : Int)) && (zB (okD w v) (v % (64 : Int)) == zB (okD w v) (v % (64 : Int)) && (zB (okD w v) (w / (16 : Int) % (4 : Int)) == zB (okD w v) (w / (16 : Int) % (4 : Int)) && ((okD w v && w / (256 : Int) % (2 : Int) == (1 : Int)) == (okD w v && w / (256 : Int) % (2 : Int) == (1 : Int)) && true)))))) = false → (((if okD w v = true then (0 : Int) else (110 : Int)) != if okD w v = true then (0 : Int) else (110 : Int)) = true → false = true) ∧ (((if okD w v = true then (0 : Int) else (110 : Int)) != if okD w v = true then (0 : Int) else (110 : Int)) = false → (strEq (tyS k) (tyS k) = true → strEq (stS k) (stS k) = true) ∧ (strEq (tyS k) (tyS k) = false → false = true))) ∧ ((!(zB (okD w v) (w % (8 : Int)) == zB (okD w v) (w % (8 : Int)) && (zB (okD w v) (w / (65536 : Int) % (64 : Int)) == zB (okD w v) (w / (65536 : Int) % (64 : Int)) && (zB (okD w v) (v % (64 : Int)) == zB (okD w v) (v % (64 : Int)) && (zB (okD w v) (w / (16 : Int) % (4 : Int)) == zB (okD w v) (w / (16 : Int) % (4 : Int)) && ((okD w v && w / (256 : Int) % (2 : Int) == (1 : Int)) == (okD w v && w / (256 : Int) % (2 : Int) == (1 : Int)) && true)))))) = true → false = true))) ∧ ((chkE t o r s n != chkE t o r s n) = true → false = true)) ∧ ((!(zB (goodB t o r s n) (wordE t o s n) == zB (goodB t o r s n) (wordE t o s n) && (zB (goodB t o r s n) r == zB (goodB t o r s n) r && true))) = true → false = true))) (by kernel_rfl) ?_
  simp only [InK] at h0 h1
  simp [strEq_self]
  omega
end Go.Proofs.YtmmejomalfjcnaaDoor
