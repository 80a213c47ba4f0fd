/- The types of the program, for the symbolic executor. No condition. (Printed by wip/mktab.py.) -/
import Derived.Test.YtijgngiocmnakaaDoorSxD
import Derived.Test.YtijgngiocmnakaaDoorChecked
namespace Go.Proofs.YtijgngiocmnakaaDoor
open Go.RowKit
set_option linter.unusedVariables false
set_option maxRecDepth 100000
namespace Sx
theorem tyOK_of {P : Program} {t : TypeId} {i : TyI} {it : TypeInfo} {z : Value} {d : TypeDesc} (h1 : P.info? t = some it) (h2 : it.size = i.size) (hb : it.bytes = i.bytes) (h3 : it.zero = some z) (h4 : z.cells.toList = cellsL Num.zero i.zero) (h5 : z = (if i.agg then .agg z.cells else z.cells.toList.headD undef)) (h6 : plainL i.zero = true) (h7 : P.underlying t = some d) (h8 : isAggD d = i.agg) (h9 : DescOK d i.d) (g : i.flat ≠ none → P.eqGuardType P.depth t = false) (f : ∀ ks, i.flat = some ks → isAggT P t = true ∧ ∃ n, flatAt P n t = some ks ∧ n ≤ Op.maxDepth) : TyOK P t i :=
  ⟨⟨it, z, h1, h2, hb, h3, h4, h5⟩, h6, ⟨d, h7, h8, h9⟩, g, f⟩
theorem descSt {fs : Array Field} {l : List (Nat × TypeId)} (h : fs.toList.map (fun f => (f.offset, f.type)) = l) : DescOK (.struct fs) (.st l) := h
theorem infoOf {t : TypeId} {it : TypeInfo} (h : Tryd.prog.types[t]? = some it) : Tryd.prog.info? t = some it := by
  unfold Tables.info?
  rw [if_pos (Array.getElem?_eq_some_iff.1 h).1]; exact h
def y1 : TyI := ⟨1, 8, false, [.val .nilFunc], .other, none⟩
theorem ok1 : TyOK Tryd.prog 1 y1 := tyOK_of (infoOf Tryd.type1) (by kernel_rfl) (by kernel_rfl) (z := (Tryd.t1.zero.getD undef)) (by kernel_rfl) (by kernel_rfl) (by kernel_rfl) (by kernel_rfl) Tryd.underlying1 (by kernel_rfl) (trivial) (fun h => absurd rfl h) (fun ks h => by cases h)
def y2 : TyI := ⟨1, 8, false, [.lit .i64 0], .int .i64, none⟩
theorem ok2 : TyOK Tryd.prog 2 y2 := tyOK_of (infoOf Tryd.type2) (by kernel_rfl) (by kernel_rfl) (z := (Tryd.t2.zero.getD undef)) (by kernel_rfl) (by kernel_rfl) (by kernel_rfl) (by kernel_rfl) Tryd.underlying2 (by kernel_rfl) (rfl) (fun h => absurd rfl h) (fun ks h => by cases h)
def y3 : TyI := ⟨1, 8, false, [.lit .i64 0], .int .i64, none⟩
theorem ok3 : TyOK Tryd.prog 3 y3 := tyOK_of (infoOf Tryd.type3) (by kernel_rfl) (by kernel_rfl) (z := (Tryd.t3.zero.getD undef)) (by kernel_rfl) (by kernel_rfl) (by kernel_rfl) (by kernel_rfl) Tryd.underlying3 (by kernel_rfl) (rfl) (fun h => absurd rfl h) (fun ks h => by cases h)
def y4 : TyI := ⟨1, 1, false, [.litb false], .bool, none⟩
theorem ok4 : TyOK Tryd.prog 4 y4 := tyOK_of (infoOf Tryd.type4) (by kernel_rfl) (by kernel_rfl) (z := (Tryd.t4.zero.getD undef)) (by kernel_rfl) (by kernel_rfl) (by kernel_rfl) (by kernel_rfl) Tryd.underlying4 (by kernel_rfl) (trivial) (fun h => absurd rfl h) (fun ks h => by cases h)
def y5 : TyI := ⟨1, 1, false, [.lit .u8 0], .int .u8, none⟩
theorem ok5 : TyOK Tryd.prog 5 y5 := tyOK_of (infoOf Tryd.type5) (by kernel_rfl) (by kernel_rfl) (z := (Tryd.t5.zero.getD undef)) (by kernel_rfl) (by kernel_rfl) (by kernel_rfl) (by kernel_rfl) Tryd.underlying5 (by kernel_rfl) (rfl) (fun h => absurd rfl h) (fun ks h => by cases h)
def y6 : TyI := ⟨1, 1, false, [.lit .u8 0], .int .u8, none⟩
theorem ok6 : TyOK Tryd.prog 6 y6 := tyOK_of (infoOf Tryd.type6) (by kernel_rfl) (by kernel_rfl) (z := (Tryd.t6.zero.getD undef)) (by kernel_rfl) (by kernel_rfl) (by kernel_rfl) (by kernel_rfl) Tryd.underlying6 (by kernel_rfl) (rfl) (fun h => absurd rfl h) (fun ks h => by cases h)
def y7 : TyI := ⟨4, 24, true, [.lit .i64 0, .lit .i64 0, .litb false, .lit .u8 0], .st [(0, 2), (1, 3), (2, 4), (3, 6)], some (List.replicate 1 (some .i64) ++ List.replicate 1 (some .i64) ++ List.replicate 1 (none) ++ List.replicate 1 (some .u8))⟩
theorem ok7 : TyOK Tryd.prog 7 y7 := tyOK_of (infoOf Tryd.type7) (by kernel_rfl) (by kernel_rfl) (z := (Tryd.t7.zero.getD undef)) (by kernel_rfl) (by kernel_rfl) (by kernel_rfl) (by kernel_rfl) Tryd.underlying7 (by kernel_rfl) (descSt (by kernel_rfl)) (fun _ => by kernel_rfl) (fun ks h => by cases h; exact ⟨by kernel_rfl, 8, by kernel_rfl, by decide⟩)
def y8 : TyI := ⟨4, 24, true, [.lit .i64 0, .lit .i64 0, .litb false, .lit .u8 0], .st [(0, 2), (1, 3), (2, 4), (3, 6)], some (List.replicate 1 (some .i64) ++ List.replicate 1 (some .i64) ++ List.replicate 1 (none) ++ List.replicate 1 (some .u8))⟩
theorem ok8 : TyOK Tryd.prog 8 y8 := tyOK_of (infoOf Tryd.type8) (by kernel_rfl) (by kernel_rfl) (z := (Tryd.t8.zero.getD undef)) (by kernel_rfl) (by kernel_rfl) (by kernel_rfl) (by kernel_rfl) Tryd.underlying8 (by kernel_rfl) (descSt (by kernel_rfl)) (fun _ => by kernel_rfl) (fun ks h => by cases h; exact ⟨by kernel_rfl, 8, by kernel_rfl, by decide⟩)
def y9 : TyI := ⟨1, 16, false, [.str ⟨#[]⟩], .str, none⟩
theorem ok9 : TyOK Tryd.prog 9 y9 := tyOK_of (infoOf Tryd.type9) (by kernel_rfl) (by kernel_rfl) (z := (Tryd.t9.zero.getD undef)) (by kernel_rfl) (by kernel_rfl) (by kernel_rfl) (by kernel_rfl) Tryd.underlying9 (by kernel_rfl) (trivial) (fun h => absurd rfl h) (fun ks h => by cases h)
def y10 : TyI := ⟨1, 16, false, [.str ⟨#[]⟩], .str, none⟩
theorem ok10 : TyOK Tryd.prog 10 y10 := tyOK_of (infoOf Tryd.type10) (by kernel_rfl) (by kernel_rfl) (z := (Tryd.t10.zero.getD undef)) (by kernel_rfl) (by kernel_rfl) (by kernel_rfl) (by kernel_rfl) Tryd.underlying10 (by kernel_rfl) (trivial) (fun h => absurd rfl h) (fun ks h => by cases h)
def y11 : TyI := ⟨1, 16, false, [.str ⟨#[]⟩], .str, none⟩
theorem ok11 : TyOK Tryd.prog 11 y11 := tyOK_of (infoOf Tryd.type11) (by kernel_rfl) (by kernel_rfl) (z := (Tryd.t11.zero.getD undef)) (by kernel_rfl) (by kernel_rfl) (by kernel_rfl) (by kernel_rfl) Tryd.underlying11 (by kernel_rfl) (trivial) (fun h => absurd rfl h) (fun ks h => by cases h)
def y12 : TyI := ⟨1, 8, false, [.lit .u64 0], .int .u64, none⟩
theorem ok12 : TyOK Tryd.prog 12 y12 := tyOK_of (infoOf Tryd.type12) (by kernel_rfl) (by kernel_rfl) (z := (Tryd.t12.zero.getD undef)) (by kernel_rfl) (by kernel_rfl) (by kernel_rfl) (by kernel_rfl) Tryd.underlying12 (by kernel_rfl) (rfl) (fun h => absurd rfl h) (fun ks h => by cases h)
def y13 : TyI := ⟨2, 24, true, [.str ⟨#[]⟩, .lit .u64 0], .st [(0, 9), (1, 12)], none⟩
theorem ok13 : TyOK Tryd.prog 13 y13 := tyOK_of (infoOf Tryd.type13) (by kernel_rfl) (by kernel_rfl) (z := (Tryd.t13.zero.getD undef)) (by kernel_rfl) (by kernel_rfl) (by kernel_rfl) (by kernel_rfl) Tryd.underlying13 (by kernel_rfl) (descSt (by kernel_rfl)) (fun h => absurd rfl h) (fun ks h => by cases h)
def y14 : TyI := ⟨2, 24, true, [.str ⟨#[]⟩, .lit .u64 0], .st [(0, 9), (1, 12)], none⟩
theorem ok14 : TyOK Tryd.prog 14 y14 := tyOK_of (infoOf Tryd.type14) (by kernel_rfl) (by kernel_rfl) (z := (Tryd.t14.zero.getD undef)) (by kernel_rfl) (by kernel_rfl) (by kernel_rfl) (by kernel_rfl) Tryd.underlying14 (by kernel_rfl) (descSt (by kernel_rfl)) (fun h => absurd rfl h) (fun ks h => by cases h)
def y15 : TyI := ⟨1, 8, false, [.val (.pointer none)], .ptr 82, none⟩
theorem ok15 : TyOK Tryd.prog 15 y15 := tyOK_of (infoOf Tryd.type15) (by kernel_rfl) (by kernel_rfl) (z := (Tryd.t15.zero.getD undef)) (by kernel_rfl) (by kernel_rfl) (by kernel_rfl) (by kernel_rfl) Tryd.underlying15 (by kernel_rfl) (rfl) (fun h => absurd rfl h) (fun ks h => by cases h)
def y16 : TyI := ⟨1, 8, false, [.val (.pointer none)], .ptr 85, none⟩
theorem ok16 : TyOK Tryd.prog 16 y16 := tyOK_of (infoOf Tryd.type16) (by kernel_rfl) (by kernel_rfl) (z := (Tryd.t16.zero.getD undef)) (by kernel_rfl) (by kernel_rfl) (by kernel_rfl) (by kernel_rfl) Tryd.underlying16 (by kernel_rfl) (rfl) (fun h => absurd rfl h) (fun ks h => by cases h)
def y17 : TyI := ⟨1, 8, false, [.val (.pointer none)], .ptr 94, none⟩
theorem ok17 : TyOK Tryd.prog 17 y17 := tyOK_of (infoOf Tryd.type17) (by kernel_rfl) (by kernel_rfl) (z := (Tryd.t17.zero.getD undef)) (by kernel_rfl) (by kernel_rfl) (by kernel_rfl) (by kernel_rfl) Tryd.underlying17 (by kernel_rfl) (rfl) (fun h => absurd rfl h) (fun ks h => by cases h)
def y18 : TyI := ⟨1, 8, true, [.val (.pointer none)], .st [(0, 17)], none⟩
theorem ok18 : TyOK Tryd.prog 18 y18 := tyOK_of (infoOf Tryd.type18) (by kernel_rfl) (by kernel_rfl) (z := (Tryd.t18.zero.getD undef)) (by kernel_rfl) (by kernel_rfl) (by kernel_rfl) (by kernel_rfl) Tryd.underlying18 (by kernel_rfl) (descSt (by kernel_rfl)) (fun h => absurd rfl h) (fun ks h => by cases h)
def y19 : TyI := ⟨1, 8, true, [.val (.pointer none)], .st [(0, 17)], none⟩
theorem ok19 : TyOK Tryd.prog 19 y19 := tyOK_of (infoOf Tryd.type19) (by kernel_rfl) (by kernel_rfl) (z := (Tryd.t19.zero.getD undef)) (by kernel_rfl) (by kernel_rfl) (by kernel_rfl) (by kernel_rfl) Tryd.underlying19 (by kernel_rfl) (descSt (by kernel_rfl)) (fun h => absurd rfl h) (fun ks h => by cases h)
def y20 : TyI := ⟨1, 16, false, [.val .nilIface], .other, none⟩
theorem ok20 : TyOK Tryd.prog 20 y20 := tyOK_of (infoOf Tryd.type20) (by kernel_rfl) (by kernel_rfl) (z := (Tryd.t20.zero.getD undef)) (by kernel_rfl) (by kernel_rfl) (by kernel_rfl) (by kernel_rfl) Tryd.underlying20 (by kernel_rfl) (trivial) (fun h => absurd rfl h) (fun ks h => by cases h)
def y21 : TyI := ⟨1, 4, false, [.lit .i32 0], .int .i32, none⟩
theorem ok21 : TyOK Tryd.prog 21 y21 := tyOK_of (infoOf Tryd.type21) (by kernel_rfl) (by kernel_rfl) (z := (Tryd.t21.zero.getD undef)) (by kernel_rfl) (by kernel_rfl) (by kernel_rfl) (by kernel_rfl) Tryd.underlying21 (by kernel_rfl) (rfl) (fun h => absurd rfl h) (fun ks h => by cases h)
def y22 : TyI := ⟨1, 8, false, [.val .nilFunc], .other, none⟩
theorem ok22 : TyOK Tryd.prog 22 y22 := tyOK_of (infoOf Tryd.type22) (by kernel_rfl) (by kernel_rfl) (z := (Tryd.t22.zero.getD undef)) (by kernel_rfl) (by kernel_rfl) (by kernel_rfl) (by kernel_rfl) Tryd.underlying22 (by kernel_rfl) (trivial) (fun h => absurd rfl h) (fun ks h => by cases h)
def y23 : TyI := ⟨1, 8, false, [.lit .i64 0], .int .i64, none⟩
theorem ok23 : TyOK Tryd.prog 23 y23 := tyOK_of (infoOf Tryd.type23) (by kernel_rfl) (by kernel_rfl) (z := (Tryd.t23.zero.getD undef)) (by kernel_rfl) (by kernel_rfl) (by kernel_rfl) (by kernel_rfl) Tryd.underlying23 (by kernel_rfl) (rfl) (fun h => absurd rfl h) (fun ks h => by cases h)
def y24 : TyI := ⟨1, 8, false, [.lit .i64 0], .int .i64, none⟩
theorem ok24 : TyOK Tryd.prog 24 y24 := tyOK_of (infoOf Tryd.type24) (by kernel_rfl) (by kernel_rfl) (z := (Tryd.t24.zero.getD undef)) (by kernel_rfl) (by kernel_rfl) (by kernel_rfl) (by kernel_rfl) Tryd.underlying24 (by kernel_rfl) (rfl) (fun h => absurd rfl h) (fun ks h => by cases h)
def y26 : TyI := ⟨1, 8, false, [.val .nilFunc], .other, none⟩
theorem ok26 : TyOK Tryd.prog 26 y26 := tyOK_of (infoOf Tryd.type26) (by kernel_rfl) (by kernel_rfl) (z := (Tryd.t26.zero.getD undef)) (by kernel_rfl) (by kernel_rfl) (by kernel_rfl) (by kernel_rfl) Tryd.underlying26 (by kernel_rfl) (trivial) (fun h => absurd rfl h) (fun ks h => by cases h)
def y27 : TyI := ⟨1, 8, false, [.val .nilFunc], .other, none⟩
theorem ok27 : TyOK Tryd.prog 27 y27 := tyOK_of (infoOf Tryd.type27) (by kernel_rfl) (by kernel_rfl) (z := (Tryd.t27.zero.getD undef)) (by kernel_rfl) (by kernel_rfl) (by kernel_rfl) (by kernel_rfl) Tryd.underlying27 (by kernel_rfl) (trivial) (fun h => absurd rfl h) (fun ks h => by cases h)
def y29 : TyI := ⟨1, 8, false, [.val .nilFunc], .other, none⟩
theorem ok29 : TyOK Tryd.prog 29 y29 := tyOK_of (infoOf Tryd.type29) (by kernel_rfl) (by kernel_rfl) (z := (Tryd.t29.zero.getD undef)) (by kernel_rfl) (by kernel_rfl) (by kernel_rfl) (by kernel_rfl) Tryd.underlying29 (by kernel_rfl) (trivial) (fun h => absurd rfl h) (fun ks h => by cases h)
def y30 : TyI := ⟨1, 8, false, [.lit .i64 0], .int .i64, none⟩
theorem ok30 : TyOK Tryd.prog 30 y30 := tyOK_of (infoOf Tryd.type30) (by kernel_rfl) (by kernel_rfl) (z := (Tryd.t30.zero.getD undef)) (by kernel_rfl) (by kernel_rfl) (by kernel_rfl) (by kernel_rfl) Tryd.underlying30 (by kernel_rfl) (rfl) (fun h => absurd rfl h) (fun ks h => by cases h)
def y32 : TyI := ⟨1, 8, false, [.val .nilFunc], .other, none⟩
theorem ok32 : TyOK Tryd.prog 32 y32 := tyOK_of (infoOf Tryd.type32) (by kernel_rfl) (by kernel_rfl) (z := (Tryd.t32.zero.getD undef)) (by kernel_rfl) (by kernel_rfl) (by kernel_rfl) (by kernel_rfl) Tryd.underlying32 (by kernel_rfl) (trivial) (fun h => absurd rfl h) (fun ks h => by cases h)
def y33 : TyI := ⟨1, 8, false, [.val .nilFunc], .other, none⟩
theorem ok33 : TyOK Tryd.prog 33 y33 := tyOK_of (infoOf Tryd.type33) (by kernel_rfl) (by kernel_rfl) (z := (Tryd.t33.zero.getD undef)) (by kernel_rfl) (by kernel_rfl) (by kernel_rfl) (by kernel_rfl) Tryd.underlying33 (by kernel_rfl) (trivial) (fun h => absurd rfl h) (fun ks h => by cases h)
def y34 : TyI := ⟨1, 8, false, [.val .nilFunc], .other, none⟩
theorem ok34 : TyOK Tryd.prog 34 y34 := tyOK_of (infoOf Tryd.type34) (by kernel_rfl) (by kernel_rfl) (z := (Tryd.t34.zero.getD undef)) (by kernel_rfl) (by kernel_rfl) (by kernel_rfl) (by kernel_rfl) Tryd.underlying34 (by kernel_rfl) (trivial) (fun h => absurd rfl h) (fun ks h => by cases h)
def y35 : TyI := ⟨1, 8, false, [.val .nilFunc], .other, none⟩
theorem ok35 : TyOK Tryd.prog 35 y35 := tyOK_of (infoOf Tryd.type35) (by kernel_rfl) (by kernel_rfl) (z := (Tryd.t35.zero.getD undef)) (by kernel_rfl) (by kernel_rfl) (by kernel_rfl) (by kernel_rfl) Tryd.underlying35 (by kernel_rfl) (trivial) (fun h => absurd rfl h) (fun ks h => by cases h)
def y36 : TyI := ⟨1, 8, false, [.val .nilFunc], .other, none⟩
theorem ok36 : TyOK Tryd.prog 36 y36 := tyOK_of (infoOf Tryd.type36) (by kernel_rfl) (by kernel_rfl) (z := (Tryd.t36.zero.getD undef)) (by kernel_rfl) (by kernel_rfl) (by kernel_rfl) (by kernel_rfl) Tryd.underlying36 (by kernel_rfl) (trivial) (fun h => absurd rfl h) (fun ks h => by cases h)
def y37 : TyI := ⟨1, 24, false, [.val (.slice none 0 0)], .sl 43, none⟩
theorem ok37 : TyOK Tryd.prog 37 y37 := tyOK_of (infoOf Tryd.type37) (by kernel_rfl) (by kernel_rfl) (z := (Tryd.t37.zero.getD undef)) (by kernel_rfl) (by kernel_rfl) (by kernel_rfl) (by kernel_rfl) Tryd.underlying37 (by kernel_rfl) (rfl) (fun h => absurd rfl h) (fun ks h => by cases h)
def y38 : TyI := ⟨1, 24, false, [.val (.slice none 0 0)], .sl 39, none⟩
theorem ok38 : TyOK Tryd.prog 38 y38 := tyOK_of (infoOf Tryd.type38) (by kernel_rfl) (by kernel_rfl) (z := (Tryd.t38.zero.getD undef)) (by kernel_rfl) (by kernel_rfl) (by kernel_rfl) (by kernel_rfl) Tryd.underlying38 (by kernel_rfl) (rfl) (fun h => absurd rfl h) (fun ks h => by cases h)
def y39 : TyI := ⟨1, 4, false, [.lit .u32 0], .int .u32, none⟩
theorem ok39 : TyOK Tryd.prog 39 y39 := tyOK_of (infoOf Tryd.type39) (by kernel_rfl) (by kernel_rfl) (z := (Tryd.t39.zero.getD undef)) (by kernel_rfl) (by kernel_rfl) (by kernel_rfl) (by kernel_rfl) Tryd.underlying39 (by kernel_rfl) (rfl) (fun h => absurd rfl h) (fun ks h => by cases h)
def y41 : TyI := ⟨1, 8, false, [.val .nilFunc], .other, none⟩
theorem ok41 : TyOK Tryd.prog 41 y41 := tyOK_of (infoOf Tryd.type41) (by kernel_rfl) (by kernel_rfl) (z := (Tryd.t41.zero.getD undef)) (by kernel_rfl) (by kernel_rfl) (by kernel_rfl) (by kernel_rfl) Tryd.underlying41 (by kernel_rfl) (trivial) (fun h => absurd rfl h) (fun ks h => by cases h)
def y42 : TyI := ⟨6, 48, true, [.lit .i64 0, .lit .i64 0, .lit .i64 0, .lit .i64 0, .lit .i64 0, .lit .i32 0], .st [(0, 23), (1, 30), (2, 3), (3, 3), (4, 3), (5, 21)], some (List.replicate 1 (some .i64) ++ List.replicate 1 (some .i64) ++ List.replicate 1 (some .i64) ++ List.replicate 1 (some .i64) ++ List.replicate 1 (some .i64) ++ List.replicate 1 (some .i32))⟩
theorem ok42 : TyOK Tryd.prog 42 y42 := tyOK_of (infoOf Tryd.type42) (by kernel_rfl) (by kernel_rfl) (z := (Tryd.t42.zero.getD undef)) (by kernel_rfl) (by kernel_rfl) (by kernel_rfl) (by kernel_rfl) Tryd.underlying42 (by kernel_rfl) (descSt (by kernel_rfl)) (fun _ => by kernel_rfl) (fun ks h => by cases h; exact ⟨by kernel_rfl, 8, by kernel_rfl, by decide⟩)
def y43 : TyI := ⟨6, 48, true, [.lit .i64 0, .lit .i64 0, .lit .i64 0, .lit .i64 0, .lit .i64 0, .lit .i32 0], .st [(0, 23), (1, 30), (2, 3), (3, 3), (4, 3), (5, 21)], some (List.replicate 1 (some .i64) ++ List.replicate 1 (some .i64) ++ List.replicate 1 (some .i64) ++ List.replicate 1 (some .i64) ++ List.replicate 1 (some .i64) ++ List.replicate 1 (some .i32))⟩
theorem ok43 : TyOK Tryd.prog 43 y43 := tyOK_of (infoOf Tryd.type43) (by kernel_rfl) (by kernel_rfl) (z := (Tryd.t43.zero.getD undef)) (by kernel_rfl) (by kernel_rfl) (by kernel_rfl) (by kernel_rfl) Tryd.underlying43 (by kernel_rfl) (descSt (by kernel_rfl)) (fun _ => by kernel_rfl) (fun ks h => by cases h; exact ⟨by kernel_rfl, 8, by kernel_rfl, by decide⟩)
def y45 : TyI := ⟨1, 8, false, [.val .nilFunc], .other, none⟩
theorem ok45 : TyOK Tryd.prog 45 y45 := tyOK_of (infoOf Tryd.type45) (by kernel_rfl) (by kernel_rfl) (z := (Tryd.t45.zero.getD undef)) (by kernel_rfl) (by kernel_rfl) (by kernel_rfl) (by kernel_rfl) Tryd.underlying45 (by kernel_rfl) (trivial) (fun h => absurd rfl h) (fun ks h => by cases h)
def y46 : TyI := ⟨6, 48, true, [.lit .i64 0, .lit .i64 0, .lit .i64 0, .lit .i64 0, .lit .i64 0, .lit .i64 0], .st [(0, 3), (1, 3), (2, 3), (3, 3), (4, 3), (5, 3)], some (List.replicate 1 (some .i64) ++ List.replicate 1 (some .i64) ++ List.replicate 1 (some .i64) ++ List.replicate 1 (some .i64) ++ List.replicate 1 (some .i64) ++ List.replicate 1 (some .i64))⟩
theorem ok46 : TyOK Tryd.prog 46 y46 := tyOK_of (infoOf Tryd.type46) (by kernel_rfl) (by kernel_rfl) (z := (Tryd.t46.zero.getD undef)) (by kernel_rfl) (by kernel_rfl) (by kernel_rfl) (by kernel_rfl) Tryd.underlying46 (by kernel_rfl) (descSt (by kernel_rfl)) (fun _ => by kernel_rfl) (fun ks h => by cases h; exact ⟨by kernel_rfl, 8, by kernel_rfl, by decide⟩)
def y47 : TyI := ⟨6, 48, true, [.lit .i64 0, .lit .i64 0, .lit .i64 0, .lit .i64 0, .lit .i64 0, .lit .i64 0], .st [(0, 3), (1, 3), (2, 3), (3, 3), (4, 3), (5, 3)], some (List.replicate 1 (some .i64) ++ List.replicate 1 (some .i64) ++ List.replicate 1 (some .i64) ++ List.replicate 1 (some .i64) ++ List.replicate 1 (some .i64) ++ List.replicate 1 (some .i64))⟩
theorem ok47 : TyOK Tryd.prog 47 y47 := tyOK_of (infoOf Tryd.type47) (by kernel_rfl) (by kernel_rfl) (z := (Tryd.t47.zero.getD undef)) (by kernel_rfl) (by kernel_rfl) (by kernel_rfl) (by kernel_rfl) Tryd.underlying47 (by kernel_rfl) (descSt (by kernel_rfl)) (fun _ => by kernel_rfl) (fun ks h => by cases h; exact ⟨by kernel_rfl, 8, by kernel_rfl, by decide⟩)
def y48 : TyI := ⟨1, 8, false, [.val .nilFunc], .other, none⟩
theorem ok48 : TyOK Tryd.prog 48 y48 := tyOK_of (infoOf Tryd.type48) (by kernel_rfl) (by kernel_rfl) (z := (Tryd.t48.zero.getD undef)) (by kernel_rfl) (by kernel_rfl) (by kernel_rfl) (by kernel_rfl) Tryd.underlying48 (by kernel_rfl) (trivial) (fun h => absurd rfl h) (fun ks h => by cases h)
def y49 : TyI := ⟨1, 8, false, [.val .nilFunc], .other, none⟩
theorem ok49 : TyOK Tryd.prog 49 y49 := tyOK_of (infoOf Tryd.type49) (by kernel_rfl) (by kernel_rfl) (z := (Tryd.t49.zero.getD undef)) (by kernel_rfl) (by kernel_rfl) (by kernel_rfl) (by kernel_rfl) Tryd.underlying49 (by kernel_rfl) (trivial) (fun h => absurd rfl h) (fun ks h => by cases h)
def y50 : TyI := ⟨1, 8, false, [.val .nilFunc], .other, none⟩
theorem ok50 : TyOK Tryd.prog 50 y50 := tyOK_of (infoOf Tryd.type50) (by kernel_rfl) (by kernel_rfl) (z := (Tryd.t50.zero.getD undef)) (by kernel_rfl) (by kernel_rfl) (by kernel_rfl) (by kernel_rfl) Tryd.underlying50 (by kernel_rfl) (trivial) (fun h => absurd rfl h) (fun ks h => by cases h)
def y52 : TyI := ⟨1, 8, false, [.val .nilFunc], .other, none⟩
theorem ok52 : TyOK Tryd.prog 52 y52 := tyOK_of (infoOf Tryd.type52) (by kernel_rfl) (by kernel_rfl) (z := (Tryd.t52.zero.getD undef)) (by kernel_rfl) (by kernel_rfl) (by kernel_rfl) (by kernel_rfl) Tryd.underlying52 (by kernel_rfl) (trivial) (fun h => absurd rfl h) (fun ks h => by cases h)
def y54 : TyI := ⟨1, 8, false, [.val .nilFunc], .other, none⟩
theorem ok54 : TyOK Tryd.prog 54 y54 := tyOK_of (infoOf Tryd.type54) (by kernel_rfl) (by kernel_rfl) (z := (Tryd.t54.zero.getD undef)) (by kernel_rfl) (by kernel_rfl) (by kernel_rfl) (by kernel_rfl) Tryd.underlying54 (by kernel_rfl) (trivial) (fun h => absurd rfl h) (fun ks h => by cases h)
def y55 : TyI := ⟨1, 8, false, [.val .nilFunc], .other, none⟩
theorem ok55 : TyOK Tryd.prog 55 y55 := tyOK_of (infoOf Tryd.type55) (by kernel_rfl) (by kernel_rfl) (z := (Tryd.t55.zero.getD undef)) (by kernel_rfl) (by kernel_rfl) (by kernel_rfl) (by kernel_rfl) Tryd.underlying55 (by kernel_rfl) (trivial) (fun h => absurd rfl h) (fun ks h => by cases h)
def y56 : TyI := ⟨1, 8, false, [.val .nilFunc], .other, none⟩
theorem ok56 : TyOK Tryd.prog 56 y56 := tyOK_of (infoOf Tryd.type56) (by kernel_rfl) (by kernel_rfl) (z := (Tryd.t56.zero.getD undef)) (by kernel_rfl) (by kernel_rfl) (by kernel_rfl) (by kernel_rfl) Tryd.underlying56 (by kernel_rfl) (trivial) (fun h => absurd rfl h) (fun ks h => by cases h)
def y57 : TyI := ⟨1, 8, false, [.val .nilFunc], .other, none⟩
theorem ok57 : TyOK Tryd.prog 57 y57 := tyOK_of (infoOf Tryd.type57) (by kernel_rfl) (by kernel_rfl) (z := (Tryd.t57.zero.getD undef)) (by kernel_rfl) (by kernel_rfl) (by kernel_rfl) (by kernel_rfl) Tryd.underlying57 (by kernel_rfl) (trivial) (fun h => absurd rfl h) (fun ks h => by cases h)
def y58 : TyI := ⟨1, 2, false, [.lit .i16 0], .int .i16, none⟩
theorem ok58 : TyOK Tryd.prog 58 y58 := tyOK_of (infoOf Tryd.type58) (by kernel_rfl) (by kernel_rfl) (z := (Tryd.t58.zero.getD undef)) (by kernel_rfl) (by kernel_rfl) (by kernel_rfl) (by kernel_rfl) Tryd.underlying58 (by kernel_rfl) (rfl) (fun h => absurd rfl h) (fun ks h => by cases h)
def y59 : TyI := ⟨1, 2, false, [.lit .u16 0], .int .u16, none⟩
theorem ok59 : TyOK Tryd.prog 59 y59 := tyOK_of (infoOf Tryd.type59) (by kernel_rfl) (by kernel_rfl) (z := (Tryd.t59.zero.getD undef)) (by kernel_rfl) (by kernel_rfl) (by kernel_rfl) (by kernel_rfl) Tryd.underlying59 (by kernel_rfl) (rfl) (fun h => absurd rfl h) (fun ks h => by cases h)
def y60 : TyI := ⟨1, 8, false, [.val .nilFunc], .other, none⟩
theorem ok60 : TyOK Tryd.prog 60 y60 := tyOK_of (infoOf Tryd.type60) (by kernel_rfl) (by kernel_rfl) (z := (Tryd.t60.zero.getD undef)) (by kernel_rfl) (by kernel_rfl) (by kernel_rfl) (by kernel_rfl) Tryd.underlying60 (by kernel_rfl) (trivial) (fun h => absurd rfl h) (fun ks h => by cases h)
def y61 : TyI := ⟨1, 8, false, [.lit .u64 0], .int .u64, none⟩
theorem ok61 : TyOK Tryd.prog 61 y61 := tyOK_of (infoOf Tryd.type61) (by kernel_rfl) (by kernel_rfl) (z := (Tryd.t61.zero.getD undef)) (by kernel_rfl) (by kernel_rfl) (by kernel_rfl) (by kernel_rfl) Tryd.underlying61 (by kernel_rfl) (rfl) (fun h => absurd rfl h) (fun ks h => by cases h)
def y62 : TyI := ⟨1, 8, false, [.val .nilFunc], .other, none⟩
theorem ok62 : TyOK Tryd.prog 62 y62 := tyOK_of (infoOf Tryd.type62) (by kernel_rfl) (by kernel_rfl) (z := (Tryd.t62.zero.getD undef)) (by kernel_rfl) (by kernel_rfl) (by kernel_rfl) (by kernel_rfl) Tryd.underlying62 (by kernel_rfl) (trivial) (fun h => absurd rfl h) (fun ks h => by cases h)
def y63 : TyI := ⟨2, 32, true, [.str ⟨#[]⟩, .str ⟨#[]⟩], .st [(0, 9), (1, 9)], none⟩
theorem ok63 : TyOK Tryd.prog 63 y63 := tyOK_of (infoOf Tryd.type63) (by kernel_rfl) (by kernel_rfl) (z := (Tryd.t63.zero.getD undef)) (by kernel_rfl) (by kernel_rfl) (by kernel_rfl) (by kernel_rfl) Tryd.underlying63 (by kernel_rfl) (descSt (by kernel_rfl)) (fun h => absurd rfl h) (fun ks h => by cases h)
def y64 : TyI := ⟨50, 800, true, [.str ⟨#[]⟩, .str ⟨#[]⟩, .str ⟨#[]⟩, .str ⟨#[]⟩, .str ⟨#[]⟩, .str ⟨#[]⟩, .str ⟨#[]⟩, .str ⟨#[]⟩, .str ⟨#[]⟩, .str ⟨#[]⟩, .str ⟨#[]⟩, .str ⟨#[]⟩, .str ⟨#[]⟩, .str ⟨#[]⟩, .str ⟨#[]⟩, .str ⟨#[]⟩, .str ⟨#[]⟩, .str ⟨#[]⟩, .str ⟨#[]⟩, .str ⟨#[]⟩, .str ⟨#[]⟩, .str ⟨#[]⟩, .str ⟨#[]⟩, .str ⟨#[]⟩, .str ⟨#[]⟩, .str ⟨#[]⟩, .str ⟨#[]⟩, .str ⟨#[]⟩, .str ⟨#[]⟩, .str ⟨#[]⟩, .str ⟨#[]⟩, .str ⟨#[]⟩, .str ⟨#[]⟩, .str ⟨#[]⟩, .str ⟨#[]⟩, .str ⟨#[]⟩, .str ⟨#[]⟩, .str ⟨#[]⟩, .str ⟨#[]⟩, .str ⟨#[]⟩, .str ⟨#[]⟩, .str ⟨#[]⟩, .str ⟨#[]⟩, .str ⟨#[]⟩, .str ⟨#[]⟩, .str ⟨#[]⟩, .str ⟨#[]⟩, .str ⟨#[]⟩, .str ⟨#[]⟩, .str ⟨#[]⟩], .arr 25 63, none⟩
theorem ok64 : TyOK Tryd.prog 64 y64 := tyOK_of (infoOf Tryd.type64) (by kernel_rfl) (by kernel_rfl) (z := (Tryd.t64.zero.getD undef)) (by kernel_rfl) (by kernel_rfl) (by kernel_rfl) (by kernel_rfl) Tryd.underlying64 (by kernel_rfl) (⟨rfl, rfl⟩) (fun h => absurd rfl h) (fun ks h => by cases h)
def y65 : TyI := ⟨25, 400, true, [.str ⟨#[]⟩, .str ⟨#[]⟩, .str ⟨#[]⟩, .str ⟨#[]⟩, .str ⟨#[]⟩, .str ⟨#[]⟩, .str ⟨#[]⟩, .str ⟨#[]⟩, .str ⟨#[]⟩, .str ⟨#[]⟩, .str ⟨#[]⟩, .str ⟨#[]⟩, .str ⟨#[]⟩, .str ⟨#[]⟩, .str ⟨#[]⟩, .str ⟨#[]⟩, .str ⟨#[]⟩, .str ⟨#[]⟩, .str ⟨#[]⟩, .str ⟨#[]⟩, .str ⟨#[]⟩, .str ⟨#[]⟩, .str ⟨#[]⟩, .str ⟨#[]⟩, .str ⟨#[]⟩], .arr 25 9, none⟩
theorem ok65 : TyOK Tryd.prog 65 y65 := tyOK_of (infoOf Tryd.type65) (by kernel_rfl) (by kernel_rfl) (z := (Tryd.t65.zero.getD undef)) (by kernel_rfl) (by kernel_rfl) (by kernel_rfl) (by kernel_rfl) Tryd.underlying65 (by kernel_rfl) (⟨rfl, rfl⟩) (fun h => absurd rfl h) (fun ks h => by cases h)
def y66 : TyI := ⟨7, 112, true, [.str ⟨#[]⟩, .str ⟨#[]⟩, .str ⟨#[]⟩, .str ⟨#[]⟩, .str ⟨#[]⟩, .str ⟨#[]⟩, .str ⟨#[]⟩], .arr 7 9, none⟩
theorem ok66 : TyOK Tryd.prog 66 y66 := tyOK_of (infoOf Tryd.type66) (by kernel_rfl) (by kernel_rfl) (z := (Tryd.t66.zero.getD undef)) (by kernel_rfl) (by kernel_rfl) (by kernel_rfl) (by kernel_rfl) Tryd.underlying66 (by kernel_rfl) (⟨rfl, rfl⟩) (fun h => absurd rfl h) (fun ks h => by cases h)
def y67 : TyI := ⟨1, 24, false, [.val (.slice none 0 0)], .sl 71, none⟩
theorem ok67 : TyOK Tryd.prog 67 y67 := tyOK_of (infoOf Tryd.type67) (by kernel_rfl) (by kernel_rfl) (z := (Tryd.t67.zero.getD undef)) (by kernel_rfl) (by kernel_rfl) (by kernel_rfl) (by kernel_rfl) Tryd.underlying67 (by kernel_rfl) (rfl) (fun h => absurd rfl h) (fun ks h => by cases h)
def y69 : TyI := ⟨1, 8, false, [.val .nilFunc], .other, none⟩
theorem ok69 : TyOK Tryd.prog 69 y69 := tyOK_of (infoOf Tryd.type69) (by kernel_rfl) (by kernel_rfl) (z := (Tryd.t69.zero.getD undef)) (by kernel_rfl) (by kernel_rfl) (by kernel_rfl) (by kernel_rfl) Tryd.underlying69 (by kernel_rfl) (trivial) (fun h => absurd rfl h) (fun ks h => by cases h)
def y70 : TyI := ⟨5, 40, true, [.lit .i64 0, .lit .i64 0, .lit .i64 0, .lit .i64 0, .lit .i64 0], .st [(0, 2), (1, 2), (2, 2), (3, 3), (4, 3)], some (List.replicate 1 (some .i64) ++ List.replicate 1 (some .i64) ++ List.replicate 1 (some .i64) ++ List.replicate 1 (some .i64) ++ List.replicate 1 (some .i64))⟩
theorem ok70 : TyOK Tryd.prog 70 y70 := tyOK_of (infoOf Tryd.type70) (by kernel_rfl) (by kernel_rfl) (z := (Tryd.t70.zero.getD undef)) (by kernel_rfl) (by kernel_rfl) (by kernel_rfl) (by kernel_rfl) Tryd.underlying70 (by kernel_rfl) (descSt (by kernel_rfl)) (fun _ => by kernel_rfl) (fun ks h => by cases h; exact ⟨by kernel_rfl, 8, by kernel_rfl, by decide⟩)
def y71 : TyI := ⟨5, 40, true, [.lit .i64 0, .lit .i64 0, .lit .i64 0, .lit .i64 0, .lit .i64 0], .st [(0, 2), (1, 2), (2, 2), (3, 3), (4, 3)], some (List.replicate 1 (some .i64) ++ List.replicate 1 (some .i64) ++ List.replicate 1 (some .i64) ++ List.replicate 1 (some .i64) ++ List.replicate 1 (some .i64))⟩
theorem ok71 : TyOK Tryd.prog 71 y71 := tyOK_of (infoOf Tryd.type71) (by kernel_rfl) (by kernel_rfl) (z := (Tryd.t71.zero.getD undef)) (by kernel_rfl) (by kernel_rfl) (by kernel_rfl) (by kernel_rfl) Tryd.underlying71 (by kernel_rfl) (descSt (by kernel_rfl)) (fun _ => by kernel_rfl) (fun ks h => by cases h; exact ⟨by kernel_rfl, 8, by kernel_rfl, by decide⟩)
def y72 : TyI := ⟨1, 8, false, [.val .nilFunc], .other, none⟩
theorem ok72 : TyOK Tryd.prog 72 y72 := tyOK_of (infoOf Tryd.type72) (by kernel_rfl) (by kernel_rfl) (z := (Tryd.t72.zero.getD undef)) (by kernel_rfl) (by kernel_rfl) (by kernel_rfl) (by kernel_rfl) Tryd.underlying72 (by kernel_rfl) (trivial) (fun h => absurd rfl h) (fun ks h => by cases h)
def y73 : TyI := ⟨1, 8, false, [.val .nilFunc], .other, none⟩
theorem ok73 : TyOK Tryd.prog 73 y73 := tyOK_of (infoOf Tryd.type73) (by kernel_rfl) (by kernel_rfl) (z := (Tryd.t73.zero.getD undef)) (by kernel_rfl) (by kernel_rfl) (by kernel_rfl) (by kernel_rfl) Tryd.underlying73 (by kernel_rfl) (trivial) (fun h => absurd rfl h) (fun ks h => by cases h)
def y74 : TyI := ⟨1, 8, false, [.val .nilFunc], .other, none⟩
theorem ok74 : TyOK Tryd.prog 74 y74 := tyOK_of (infoOf Tryd.type74) (by kernel_rfl) (by kernel_rfl) (z := (Tryd.t74.zero.getD undef)) (by kernel_rfl) (by kernel_rfl) (by kernel_rfl) (by kernel_rfl) Tryd.underlying74 (by kernel_rfl) (trivial) (fun h => absurd rfl h) (fun ks h => by cases h)
def y75 : TyI := ⟨1, 8, false, [.val .nilFunc], .other, none⟩
theorem ok75 : TyOK Tryd.prog 75 y75 := tyOK_of (infoOf Tryd.type75) (by kernel_rfl) (by kernel_rfl) (z := (Tryd.t75.zero.getD undef)) (by kernel_rfl) (by kernel_rfl) (by kernel_rfl) (by kernel_rfl) Tryd.underlying75 (by kernel_rfl) (trivial) (fun h => absurd rfl h) (fun ks h => by cases h)
def y76 : TyI := ⟨1, 8, false, [.val .nilFunc], .other, none⟩
theorem ok76 : TyOK Tryd.prog 76 y76 := tyOK_of (infoOf Tryd.type76) (by kernel_rfl) (by kernel_rfl) (z := (Tryd.t76.zero.getD undef)) (by kernel_rfl) (by kernel_rfl) (by kernel_rfl) (by kernel_rfl) Tryd.underlying76 (by kernel_rfl) (trivial) (fun h => absurd rfl h) (fun ks h => by cases h)
def y78 : TyI := ⟨1, 8, false, [.val .nilFunc], .other, none⟩
theorem ok78 : TyOK Tryd.prog 78 y78 := tyOK_of (infoOf Tryd.type78) (by kernel_rfl) (by kernel_rfl) (z := (Tryd.t78.zero.getD undef)) (by kernel_rfl) (by kernel_rfl) (by kernel_rfl) (by kernel_rfl) Tryd.underlying78 (by kernel_rfl) (trivial) (fun h => absurd rfl h) (fun ks h => by cases h)
def y79 : TyI := ⟨1, 8, false, [.lit .u64 0], .int .u64, none⟩
theorem ok79 : TyOK Tryd.prog 79 y79 := tyOK_of (infoOf Tryd.type79) (by kernel_rfl) (by kernel_rfl) (z := (Tryd.t79.zero.getD undef)) (by kernel_rfl) (by kernel_rfl) (by kernel_rfl) (by kernel_rfl) Tryd.underlying79 (by kernel_rfl) (rfl) (fun h => absurd rfl h) (fun ks h => by cases h)
def y80 : TyI := ⟨1, 8, false, [.val .nilFunc], .other, none⟩
theorem ok80 : TyOK Tryd.prog 80 y80 := tyOK_of (infoOf Tryd.type80) (by kernel_rfl) (by kernel_rfl) (z := (Tryd.t80.zero.getD undef)) (by kernel_rfl) (by kernel_rfl) (by kernel_rfl) (by kernel_rfl) Tryd.underlying80 (by kernel_rfl) (trivial) (fun h => absurd rfl h) (fun ks h => by cases h)
def y81 : TyI := ⟨4, 40, true, [.val (.pointer none), .val (.pointer none), .val (.pointer none), .str ⟨#[]⟩], .st [(0, 17), (1, 17), (2, 17), (3, 9)], none⟩
theorem ok81 : TyOK Tryd.prog 81 y81 := tyOK_of (infoOf Tryd.type81) (by kernel_rfl) (by kernel_rfl) (z := (Tryd.t81.zero.getD undef)) (by kernel_rfl) (by kernel_rfl) (by kernel_rfl) (by kernel_rfl) Tryd.underlying81 (by kernel_rfl) (descSt (by kernel_rfl)) (fun h => absurd rfl h) (fun ks h => by cases h)
def y82 : TyI := ⟨4, 40, true, [.val (.pointer none), .val (.pointer none), .val (.pointer none), .str ⟨#[]⟩], .st [(0, 17), (1, 17), (2, 17), (3, 9)], none⟩
theorem ok82 : TyOK Tryd.prog 82 y82 := tyOK_of (infoOf Tryd.type82) (by kernel_rfl) (by kernel_rfl) (z := (Tryd.t82.zero.getD undef)) (by kernel_rfl) (by kernel_rfl) (by kernel_rfl) (by kernel_rfl) Tryd.underlying82 (by kernel_rfl) (descSt (by kernel_rfl)) (fun h => absurd rfl h) (fun ks h => by cases h)
def y86 : TyI := ⟨1, 8, false, [.val .nilFunc], .other, none⟩
theorem ok86 : TyOK Tryd.prog 86 y86 := tyOK_of (infoOf Tryd.type86) (by kernel_rfl) (by kernel_rfl) (z := (Tryd.t86.zero.getD undef)) (by kernel_rfl) (by kernel_rfl) (by kernel_rfl) (by kernel_rfl) Tryd.underlying86 (by kernel_rfl) (trivial) (fun h => absurd rfl h) (fun ks h => by cases h)
def y87 : TyI := ⟨1, 1, false, [.lit .u8 0], .int .u8, none⟩
theorem ok87 : TyOK Tryd.prog 87 y87 := tyOK_of (infoOf Tryd.type87) (by kernel_rfl) (by kernel_rfl) (z := (Tryd.t87.zero.getD undef)) (by kernel_rfl) (by kernel_rfl) (by kernel_rfl) (by kernel_rfl) Tryd.underlying87 (by kernel_rfl) (rfl) (fun h => absurd rfl h) (fun ks h => by cases h)
def y88 : TyI := ⟨1, 1, false, [.lit .u8 0], .int .u8, none⟩
theorem ok88 : TyOK Tryd.prog 88 y88 := tyOK_of (infoOf Tryd.type88) (by kernel_rfl) (by kernel_rfl) (z := (Tryd.t88.zero.getD undef)) (by kernel_rfl) (by kernel_rfl) (by kernel_rfl) (by kernel_rfl) Tryd.underlying88 (by kernel_rfl) (rfl) (fun h => absurd rfl h) (fun ks h => by cases h)
def y89 : TyI := ⟨1, 8, false, [.val .nilFunc], .other, none⟩
theorem ok89 : TyOK Tryd.prog 89 y89 := tyOK_of (infoOf Tryd.type89) (by kernel_rfl) (by kernel_rfl) (z := (Tryd.t89.zero.getD undef)) (by kernel_rfl) (by kernel_rfl) (by kernel_rfl) (by kernel_rfl) Tryd.underlying89 (by kernel_rfl) (trivial) (fun h => absurd rfl h) (fun ks h => by cases h)
def y90 : TyI := ⟨1, 8, false, [.val (.pointer none)], .ptr 5, none⟩
theorem ok90 : TyOK Tryd.prog 90 y90 := tyOK_of (infoOf Tryd.type90) (by kernel_rfl) (by kernel_rfl) (z := (Tryd.t90.zero.getD undef)) (by kernel_rfl) (by kernel_rfl) (by kernel_rfl) (by kernel_rfl) Tryd.underlying90 (by kernel_rfl) (rfl) (fun h => absurd rfl h) (fun ks h => by cases h)
def y91 : TyI := ⟨1, 4, false, [.lit .i32 0], .int .i32, none⟩
theorem ok91 : TyOK Tryd.prog 91 y91 := tyOK_of (infoOf Tryd.type91) (by kernel_rfl) (by kernel_rfl) (z := (Tryd.t91.zero.getD undef)) (by kernel_rfl) (by kernel_rfl) (by kernel_rfl) (by kernel_rfl) Tryd.underlying91 (by kernel_rfl) (rfl) (fun h => absurd rfl h) (fun ks h => by cases h)
def y92 : TyI := ⟨1, 4, false, [.lit .i32 0], .int .i32, none⟩
theorem ok92 : TyOK Tryd.prog 92 y92 := tyOK_of (infoOf Tryd.type92) (by kernel_rfl) (by kernel_rfl) (z := (Tryd.t92.zero.getD undef)) (by kernel_rfl) (by kernel_rfl) (by kernel_rfl) (by kernel_rfl) Tryd.underlying92 (by kernel_rfl) (rfl) (fun h => absurd rfl h) (fun ks h => by cases h)
def y93 : TyI := ⟨11, 48, true, [.lit .u64 0, .lit .u64 0, .lit .u32 0, .lit .u8 0, .lit .u8 0, .lit .u8 0, .lit .u8 0, .val .nilFunc, .val (.pointer none), .lit .i32 0, .lit .i32 0], .st [(0, 12), (1, 12), (2, 39), (3, 87), (4, 5), (5, 5), (6, 88), (7, 89), (8, 90), (9, 91), (10, 92)], none⟩
theorem ok93 : TyOK Tryd.prog 93 y93 := tyOK_of (infoOf Tryd.type93) (by kernel_rfl) (by kernel_rfl) (z := (Tryd.t93.zero.getD undef)) (by kernel_rfl) (by kernel_rfl) (by kernel_rfl) (by kernel_rfl) Tryd.underlying93 (by kernel_rfl) (descSt (by kernel_rfl)) (fun h => absurd rfl h) (fun ks h => by cases h)
def y94 : TyI := ⟨11, 48, true, [.lit .u64 0, .lit .u64 0, .lit .u32 0, .lit .u8 0, .lit .u8 0, .lit .u8 0, .lit .u8 0, .val .nilFunc, .val (.pointer none), .lit .i32 0, .lit .i32 0], .st [(0, 12), (1, 12), (2, 39), (3, 87), (4, 5), (5, 5), (6, 88), (7, 89), (8, 90), (9, 91), (10, 92)], none⟩
theorem ok94 : TyOK Tryd.prog 94 y94 := tyOK_of (infoOf Tryd.type94) (by kernel_rfl) (by kernel_rfl) (z := (Tryd.t94.zero.getD undef)) (by kernel_rfl) (by kernel_rfl) (by kernel_rfl) (by kernel_rfl) Tryd.underlying94 (by kernel_rfl) (descSt (by kernel_rfl)) (fun h => absurd rfl h) (fun ks h => by cases h)
def tab : Tab := [(1, y1), (2, y2), (3, y3), (4, y4), (5, y5), (6, y6), (7, y7), (8, y8), (9, y9), (10, y10), (11, y11), (12, y12), (13, y13), (14, y14), (15, y15), (16, y16), (17, y17), (18, y18), (19, y19), (20, y20), (21, y21), (22, y22), (23, y23), (24, y24), (26, y26), (27, y27), (29, y29), (30, y30), (32, y32), (33, y33), (34, y34), (35, y35), (36, y36), (37, y37), (38, y38), (39, y39), (41, y41), (42, y42), (43, y43), (45, y45), (46, y46), (47, y47), (48, y48), (49, y49), (50, y50), (52, y52), (54, y54), (55, y55), (56, y56), (57, y57), (58, y58), (59, y59), (60, y60), (61, y61), (62, y62), (63, y63), (64, y64), (65, y65), (66, y66), (67, y67), (69, y69), (70, y70), (71, y71), (72, y72), (73, y73), (74, y74), (75, y75), (76, y76), (78, y78), (79, y79), (80, y80), (81, y81), (82, y82), (86, y86), (87, y87), (88, y88), (89, y89), (90, y90), (91, y91), (92, y92), (93, y93), (94, y94)]
def AllOK : Tab → Prop
  | [] => True
  | p :: l => TyOK Tryd.prog p.1 p.2 ∧ AllOK l
theorem all_ok : ∀ (l : Tab), AllOK l → ∀ t i, List.lookup t l = some i → TyOK Tryd.prog t i
  | [], _, t, i, h => by simp at h
  | (d, v) :: l, hp, t, i, h => by
    rw [lookup_cons] at h
    by_cases hd : t = d
    · simp [hd] at h; subst h hd; exact hp.1
    · simp [hd] at h; exact all_ok l hp.2 t i h
theorem tab_ok : TabOK Tryd.prog tab := all_ok tab ⟨ok1, ok2, ok3, ok4, ok5, ok6, ok7, ok8, ok9, ok10, ok11, ok12, ok13, ok14, ok15, ok16, ok17, ok18, ok19, ok20, ok21, ok22, ok23, ok24, ok26, ok27, ok29, ok30, ok32, ok33, ok34, ok35, ok36, ok37, ok38, ok39, ok41, ok42, ok43, ok45, ok46, ok47, ok48, ok49, ok50, ok52, ok54, ok55, ok56, ok57, ok58, ok59, ok60, ok61, ok62, ok63, ok64, ok65, ok66, ok67, ok69, ok70, ok71, ok72, ok73, ok74, ok75, ok76, ok78, ok79, ok80, ok81, ok82, ok86, ok87, ok88, ok89, ok90, ok91, ok92, ok93, ok94, trivial⟩
noncomputable def fnL : List (Nat × Func) := [(2, Tryd.f2), (3, Tryd.f3), (4, Tryd.f4), (5, Tryd.f5), (6, Tryd.f6), (7, Tryd.f7), (8, Tryd.f8), (9, Tryd.f9), (10, Tryd.f10), (11, Tryd.f11), (12, Tryd.f12), (13, Tryd.f13), (14, Tryd.f14), (15, Tryd.f15), (16, Tryd.f16), (17, Tryd.f17), (18, Tryd.f18), (19, Tryd.f19), (20, Tryd.f20), (21, Tryd.f21), (22, Tryd.f22), (23, Tryd.f23), (24, Tryd.f24), (25, Tryd.f25), (26, Tryd.f26), (27, Tryd.f27), (28, Tryd.f28), (29, Tryd.f29), (30, Tryd.f30), (31, Tryd.f31), (32, Tryd.f32), (33, Tryd.f33), (34, Tryd.f34), (35, Tryd.f35), (59, Tryd.f59)]
noncomputable def fns (f : FuncId) : Option Func := List.lookup f fnL
def FnOK (f : Nat) (fn : Func) : Prop := Tryd.prog.funcs[f]? = some fn ∧ ∀ args w, (callFunc f args).run Tryd.prog w = .ok (.enter f args) w
def AllFn : List (Nat × Func) → Prop
  | [] => True
  | p :: l => FnOK p.1 p.2 ∧ AllFn l
theorem allFn : ∀ (l : List (Nat × Func)), AllFn l → ∀ f fn, List.lookup f l = some fn → FnOK f fn
  | [], _, t, i, h => by simp at h
  | (d, v) :: l, hp, t, i, h => by
    rw [lookup_cons] at h
    by_cases hd : t = d
    · simp [hd] at h; subst h hd; exact hp.1
    · simp [hd] at h; exact allFn l hp.2 t i h
theorem fnOK {f : Nat} {fn : Func} (hf : Tryd.prog.funcs[f]? = some fn) (hn : (fn.name == "runtime.NumGoroutine") = false) (hb : fn.body.isNone = false) : FnOK f fn := ⟨hf, callFunc_ok hf hn hb⟩
theorem fns_ok : FnsOK Tryd.prog fns := allFn fnL ⟨fnOK Tryd.func2 (by kernel_rfl) (by kernel_rfl), fnOK Tryd.func3 (by kernel_rfl) (by kernel_rfl), fnOK Tryd.func4 (by kernel_rfl) (by kernel_rfl), fnOK Tryd.func5 (by kernel_rfl) (by kernel_rfl), fnOK Tryd.func6 (by kernel_rfl) (by kernel_rfl), fnOK Tryd.func7 (by kernel_rfl) (by kernel_rfl), fnOK Tryd.func8 (by kernel_rfl) (by kernel_rfl), fnOK Tryd.func9 (by kernel_rfl) (by kernel_rfl), fnOK Tryd.func10 (by kernel_rfl) (by kernel_rfl), fnOK Tryd.func11 (by kernel_rfl) (by kernel_rfl), fnOK Tryd.func12 (by kernel_rfl) (by kernel_rfl), fnOK Tryd.func13 (by kernel_rfl) (by kernel_rfl), fnOK Tryd.func14 (by kernel_rfl) (by kernel_rfl), fnOK Tryd.func15 (by kernel_rfl) (by kernel_rfl), fnOK Tryd.func16 (by kernel_rfl) (by kernel_rfl), fnOK Tryd.func17 (by kernel_rfl) (by kernel_rfl), fnOK Tryd.func18 (by kernel_rfl) (by kernel_rfl), fnOK Tryd.func19 (by kernel_rfl) (by kernel_rfl), fnOK Tryd.func20 (by kernel_rfl) (by kernel_rfl), fnOK Tryd.func21 (by kernel_rfl) (by kernel_rfl), fnOK Tryd.func22 (by kernel_rfl) (by kernel_rfl), fnOK Tryd.func23 (by kernel_rfl) (by kernel_rfl), fnOK Tryd.func24 (by kernel_rfl) (by kernel_rfl), fnOK Tryd.func25 (by kernel_rfl) (by kernel_rfl), fnOK Tryd.func26 (by kernel_rfl) (by kernel_rfl), fnOK Tryd.func27 (by kernel_rfl) (by kernel_rfl), fnOK Tryd.func28 (by kernel_rfl) (by kernel_rfl), fnOK Tryd.func29 (by kernel_rfl) (by kernel_rfl), fnOK Tryd.func30 (by kernel_rfl) (by kernel_rfl), fnOK Tryd.func31 (by kernel_rfl) (by kernel_rfl), fnOK Tryd.func32 (by kernel_rfl) (by kernel_rfl), fnOK Tryd.func33 (by kernel_rfl) (by kernel_rfl), fnOK Tryd.func34 (by kernel_rfl) (by kernel_rfl), fnOK Tryd.func35 (by kernel_rfl) (by kernel_rfl), fnOK Tryd.func59 (by kernel_rfl) (by kernel_rfl), trivial⟩
theorem mixed : Tryd.prog.follows .mixedOrders = true := by kernel_rfl
end Sx
end Go.Proofs.YtijgngiocmnakaaDoor
