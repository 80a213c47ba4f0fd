/- The types of the program, for the symbolic executor. No condition. (Printed by wip/mktab.py.) -/
import Derived.Test.YtheeaplnobdpoaaDoorSxD
import Derived.Test.YtheeaplnobdpoaaDoorChecked
namespace Go.Proofs.YtheeaplnobdpoaaDoor
open Go.RowKit
set_option linter.unusedVariables false
set_option maxRecDepth 100000
namespace Sx
theorem tyN {P : Program} {t : TypeId} {i : TyI} {it : TypeInfo} {d : TypeDesc} (h1 : P.info? t = some it) (h7 : P.underlying t = some d) (h9 : DescOK d i.d) (h2 : it.size = i.size := by kernel_rfl) (hb : it.bytes = i.bytes := by kernel_rfl) (h3 : it.zero = some (it.zero.getD undef) := by kernel_rfl) (h4 : (it.zero.getD undef).cells.toList = cellsL Num.zero i.zero := by kernel_rfl) (h5 : it.zero.getD undef = (if i.agg then .agg (it.zero.getD undef).cells else (it.zero.getD undef).cells.toList.headD undef) := by kernel_rfl) (h6 : plainL i.zero = true := by kernel_rfl) (h8 : isAggD d = i.agg := by kernel_rfl) (g : i.flat ≠ none → P.eqGuardType P.depth t = false := by exact fun h => absurd rfl h) (f : ∀ ks, i.flat = some ks → isAggT P t = true ∧ ∃ n, flatAt P n t = some ks ∧ n ≤ Op.maxDepth := by exact fun ks h => nomatch h) : TyOK P t i :=
  ⟨⟨it, it.zero.getD undef, h1, h2, hb, h3, h4, h5⟩, h6, ⟨d, h7, h8, h9⟩, g, f⟩
theorem descSt {fs : Array Field} {l : List (Nat × TypeId)} (h : fs.toList.map (fun f => (f.offset, f.type)) = l) : DescOK (.struct fs) (.st l) := h
theorem infoOf {t : TypeId} {it : TypeInfo} (h : Tryd.prog.types[t]? = some it) : Tryd.prog.info? t = some it := by
  unfold Tables.info?
  rw [if_pos (Array.getElem?_eq_some_iff.1 h).1]; exact h
def y2 : TyI := ⟨1, 8, false, [.lit .i64 0], .int .i64, none⟩
theorem ok2 : TyOK Tryd.prog 2 y2 := tyN (infoOf Tryd.type2) Tryd.underlying2 rfl
def y3 : TyI := ⟨1, 8, false, [.lit .i64 0], .int .i64, none⟩
theorem ok3 : TyOK Tryd.prog 3 y3 := tyN (infoOf Tryd.type3) Tryd.underlying3 rfl
def y4 : TyI := ⟨1, 1, false, [.litb false], .bool, none⟩
theorem ok4 : TyOK Tryd.prog 4 y4 := tyN (infoOf Tryd.type4) Tryd.underlying4 trivial
def y5 : TyI := ⟨1, 1, false, [.lit .u8 0], .int .u8, none⟩
theorem ok5 : TyOK Tryd.prog 5 y5 := tyN (infoOf Tryd.type5) Tryd.underlying5 rfl
def y6 : TyI := ⟨1, 1, false, [.lit .u8 0], .int .u8, none⟩
theorem ok6 : TyOK Tryd.prog 6 y6 := tyN (infoOf Tryd.type6) Tryd.underlying6 rfl
def y7 : TyI := ⟨4, 24, true, [.lit .i64 0, .lit .i64 0, .litb false, .lit .u8 0], .st [(0, 2), (1, 3), (2, 4), (3, 6)], some (List.replicate 1 (some .i64) ++ List.replicate 1 (some .i64) ++ List.replicate 1 (none) ++ List.replicate 1 (some .u8))⟩
theorem ok7 : TyOK Tryd.prog 7 y7 := tyN (infoOf Tryd.type7) Tryd.underlying7 (descSt (by kernel_rfl)) (g := fun _ => by kernel_rfl) (f := fun ks h => by cases h; exact ⟨by kernel_rfl, 8, by kernel_rfl, by decide⟩)
def y8 : TyI := ⟨4, 24, true, [.lit .i64 0, .lit .i64 0, .litb false, .lit .u8 0], .st [(0, 2), (1, 3), (2, 4), (3, 6)], some (List.replicate 1 (some .i64) ++ List.replicate 1 (some .i64) ++ List.replicate 1 (none) ++ List.replicate 1 (some .u8))⟩
theorem ok8 : TyOK Tryd.prog 8 y8 := tyN (infoOf Tryd.type8) Tryd.underlying8 (descSt (by kernel_rfl)) (g := fun _ => by kernel_rfl) (f := fun ks h => by cases h; exact ⟨by kernel_rfl, 8, by kernel_rfl, by decide⟩)
def y9 : TyI := ⟨1, 16, false, [.str ⟨#[]⟩], .str, none⟩
theorem ok9 : TyOK Tryd.prog 9 y9 := tyN (infoOf Tryd.type9) Tryd.underlying9 trivial
def y10 : TyI := ⟨1, 16, false, [.str ⟨#[]⟩], .str, none⟩
theorem ok10 : TyOK Tryd.prog 10 y10 := tyN (infoOf Tryd.type10) Tryd.underlying10 trivial
def y11 : TyI := ⟨1, 16, false, [.str ⟨#[]⟩], .str, none⟩
theorem ok11 : TyOK Tryd.prog 11 y11 := tyN (infoOf Tryd.type11) Tryd.underlying11 trivial
def y12 : TyI := ⟨1, 8, false, [.lit .u64 0], .int .u64, none⟩
theorem ok12 : TyOK Tryd.prog 12 y12 := tyN (infoOf Tryd.type12) Tryd.underlying12 rfl
def y13 : TyI := ⟨2, 24, true, [.str ⟨#[]⟩, .lit .u64 0], .st [(0, 9), (1, 12)], none⟩
theorem ok13 : TyOK Tryd.prog 13 y13 := tyN (infoOf Tryd.type13) Tryd.underlying13 (descSt (by kernel_rfl))
def y14 : TyI := ⟨2, 24, true, [.str ⟨#[]⟩, .lit .u64 0], .st [(0, 9), (1, 12)], none⟩
theorem ok14 : TyOK Tryd.prog 14 y14 := tyN (infoOf Tryd.type14) Tryd.underlying14 (descSt (by kernel_rfl))
def y15 : TyI := ⟨1, 8, false, [.val (.pointer none)], .ptr 170, none⟩
theorem ok15 : TyOK Tryd.prog 15 y15 := tyN (infoOf Tryd.type15) Tryd.underlying15 rfl
def y16 : TyI := ⟨1, 8, false, [.val (.pointer none)], .ptr 173, none⟩
theorem ok16 : TyOK Tryd.prog 16 y16 := tyN (infoOf Tryd.type16) Tryd.underlying16 rfl
def y17 : TyI := ⟨1, 8, false, [.val (.pointer none)], .ptr 182, none⟩
theorem ok17 : TyOK Tryd.prog 17 y17 := tyN (infoOf Tryd.type17) Tryd.underlying17 rfl
def y18 : TyI := ⟨1, 8, true, [.val (.pointer none)], .st [(0, 17)], none⟩
theorem ok18 : TyOK Tryd.prog 18 y18 := tyN (infoOf Tryd.type18) Tryd.underlying18 (descSt (by kernel_rfl))
def y19 : TyI := ⟨1, 8, true, [.val (.pointer none)], .st [(0, 17)], none⟩
theorem ok19 : TyOK Tryd.prog 19 y19 := tyN (infoOf Tryd.type19) Tryd.underlying19 (descSt (by kernel_rfl))
def y20 : TyI := ⟨1, 16, false, [.val .nilIface], .other, none⟩
theorem ok20 : TyOK Tryd.prog 20 y20 := tyN (infoOf Tryd.type20) Tryd.underlying20 trivial
def y21 : TyI := ⟨1, 4, false, [.lit .i32 0], .int .i32, none⟩
theorem ok21 : TyOK Tryd.prog 21 y21 := tyN (infoOf Tryd.type21) Tryd.underlying21 rfl
def y22 : TyI := ⟨1, 24, false, [.val (.slice none 0 0)], .sl 28, none⟩
theorem ok22 : TyOK Tryd.prog 22 y22 := tyN (infoOf Tryd.type22) Tryd.underlying22 rfl
def y23 : TyI := ⟨1, 24, false, [.val (.slice none 0 0)], .sl 3, none⟩
theorem ok23 : TyOK Tryd.prog 23 y23 := tyN (infoOf Tryd.type23) Tryd.underlying23 rfl
def y24 : TyI := ⟨3, 72, true, [.val (.slice none 0 0), .val (.slice none 0 0), .val (.slice none 0 0)], .st [(0, 22), (1, 22), (2, 23)], none⟩
theorem ok24 : TyOK Tryd.prog 24 y24 := tyN (infoOf Tryd.type24) Tryd.underlying24 (descSt (by kernel_rfl))
def y25 : TyI := ⟨3, 72, true, [.val (.slice none 0 0), .val (.slice none 0 0), .val (.slice none 0 0)], .st [(0, 22), (1, 22), (2, 23)], none⟩
theorem ok25 : TyOK Tryd.prog 25 y25 := tyN (infoOf Tryd.type25) Tryd.underlying25 (descSt (by kernel_rfl))
def y26 : TyI := ⟨1, 24, false, [.val (.slice none 0 0)], .sl 5, none⟩
theorem ok26 : TyOK Tryd.prog 26 y26 := tyN (infoOf Tryd.type26) Tryd.underlying26 rfl
def y28 : TyI := ⟨1, 4, false, [.lit .u32 0], .int .u32, none⟩
theorem ok28 : TyOK Tryd.prog 28 y28 := tyN (infoOf Tryd.type28) Tryd.underlying28 rfl
def y29 : TyI := ⟨8, 32, true, [.lit .u32 0, .lit .u32 0, .lit .u32 0, .lit .u32 0, .lit .u32 0, .lit .u32 0, .lit .u32 0, .lit .u32 0], .arr 8 28, some (List.replicate 8 (some .u32))⟩
theorem ok29 : TyOK Tryd.prog 29 y29 := tyN (infoOf Tryd.type29) Tryd.underlying29 ⟨rfl, rfl⟩ (g := fun _ => by kernel_rfl) (f := fun ks h => by cases h; exact ⟨by kernel_rfl, 8, by kernel_rfl, by decide⟩)
def y34 : TyI := ⟨1, 8, false, [.val (.pointer none)], .ptr 40, none⟩
theorem ok34 : TyOK Tryd.prog 34 y34 := tyN (infoOf Tryd.type34) Tryd.underlying34 rfl
def y38 : TyI := ⟨1, 8, false, [.val (.pointer none)], .ptr 123, none⟩
theorem ok38 : TyOK Tryd.prog 38 y38 := tyN (infoOf Tryd.type38) Tryd.underlying38 rfl
def y39 : TyI := ⟨2, 16, true, [.val (.pointer none), .val (.pointer none)], .st [(0, 38), (1, 38)], none⟩
theorem ok39 : TyOK Tryd.prog 39 y39 := tyN (infoOf Tryd.type39) Tryd.underlying39 (descSt (by kernel_rfl))
def y40 : TyI := ⟨2, 16, true, [.val (.pointer none), .val (.pointer none)], .st [(0, 38), (1, 38)], none⟩
theorem ok40 : TyOK Tryd.prog 40 y40 := tyN (infoOf Tryd.type40) Tryd.underlying40 (descSt (by kernel_rfl))
def y43 : TyI := ⟨5, 88, true, [.val (.slice none 0 0), .val (.slice none 0 0), .val (.slice none 0 0), .lit .i64 0, .lit .i64 0], .st [(0, 26), (1, 26), (2, 26), (3, 3), (4, 3)], none⟩
theorem ok43 : TyOK Tryd.prog 43 y43 := tyN (infoOf Tryd.type43) Tryd.underlying43 (descSt (by kernel_rfl))
def y44 : TyI := ⟨5, 88, true, [.val (.slice none 0 0), .val (.slice none 0 0), .val (.slice none 0 0), .lit .i64 0, .lit .i64 0], .st [(0, 26), (1, 26), (2, 26), (3, 3), (4, 3)], none⟩
theorem ok44 : TyOK Tryd.prog 44 y44 := tyN (infoOf Tryd.type44) Tryd.underlying44 (descSt (by kernel_rfl))
def y46 : TyI := ⟨1, 8, false, [.lit .i64 0], .int .i64, none⟩
theorem ok46 : TyOK Tryd.prog 46 y46 := tyN (infoOf Tryd.type46) Tryd.underlying46 rfl
def y52 : TyI := ⟨1, 24, false, [.val (.slice none 0 0)], .sl 58, none⟩
theorem ok52 : TyOK Tryd.prog 52 y52 := tyN (infoOf Tryd.type52) Tryd.underlying52 rfl
def y53 : TyI := ⟨1, 24, false, [.val (.slice none 0 0)], .sl 34, none⟩
theorem ok53 : TyOK Tryd.prog 53 y53 := tyN (infoOf Tryd.type53) Tryd.underlying53 rfl
def y54 : TyI := ⟨2, 48, true, [.val (.slice none 0 0), .val (.slice none 0 0)], .st [(0, 22), (1, 22)], none⟩
theorem ok54 : TyOK Tryd.prog 54 y54 := tyN (infoOf Tryd.type54) Tryd.underlying54 (descSt (by kernel_rfl))
def y55 : TyI := ⟨2, 48, true, [.val (.slice none 0 0), .val (.slice none 0 0)], .st [(0, 22), (1, 22)], none⟩
theorem ok55 : TyOK Tryd.prog 55 y55 := tyN (infoOf Tryd.type55) Tryd.underlying55 (descSt (by kernel_rfl))
def y56 : TyI := ⟨1, 24, false, [.val (.slice none 0 0)], .sl 55, none⟩
theorem ok56 : TyOK Tryd.prog 56 y56 := tyN (infoOf Tryd.type56) Tryd.underlying56 rfl
def y57 : TyI := ⟨23, 184, true, [.lit .i64 0, .lit .i64 0, .val (.slice none 0 0), .val (.slice none 0 0), .val (.slice none 0 0), .val (.slice none 0 0), .lit .u32 0, .lit .u32 0, .lit .u32 0, .lit .u32 0, .lit .u32 0, .lit .u32 0, .lit .u32 0, .lit .u32 0, .lit .u32 0, .lit .u32 0, .lit .u32 0, .lit .u32 0, .lit .u32 0, .lit .u32 0, .lit .u32 0, .lit .u32 0, .lit .i64 0], .st [(0, 3), (1, 3), (2, 22), (3, 22), (4, 26), (5, 26), (6, 29), (14, 29), (22, 3)], none⟩
theorem ok57 : TyOK Tryd.prog 57 y57 := tyN (infoOf Tryd.type57) Tryd.underlying57 (descSt (by kernel_rfl))
def y58 : TyI := ⟨23, 184, true, [.lit .i64 0, .lit .i64 0, .val (.slice none 0 0), .val (.slice none 0 0), .val (.slice none 0 0), .val (.slice none 0 0), .lit .u32 0, .lit .u32 0, .lit .u32 0, .lit .u32 0, .lit .u32 0, .lit .u32 0, .lit .u32 0, .lit .u32 0, .lit .u32 0, .lit .u32 0, .lit .u32 0, .lit .u32 0, .lit .u32 0, .lit .u32 0, .lit .u32 0, .lit .u32 0, .lit .i64 0], .st [(0, 3), (1, 3), (2, 22), (3, 22), (4, 26), (5, 26), (6, 29), (14, 29), (22, 3)], none⟩
theorem ok58 : TyOK Tryd.prog 58 y58 := tyN (infoOf Tryd.type58) Tryd.underlying58 (descSt (by kernel_rfl))
def y61 : TyI := ⟨1, 24, false, [.val (.slice none 0 0)], .sl 139, none⟩
theorem ok61 : TyOK Tryd.prog 61 y61 := tyN (infoOf Tryd.type61) Tryd.underlying61 rfl
def y62 : TyI := ⟨1, 24, false, [.val (.slice none 0 0)], .sl 76, none⟩
theorem ok62 : TyOK Tryd.prog 62 y62 := tyN (infoOf Tryd.type62) Tryd.underlying62 rfl
def y70 : TyI := ⟨26, 104, true, [.ints .u32 26 (List.replicate 26 0)], .arr 26 28, some (List.replicate 26 (some .u32))⟩
theorem ok70 : TyOK Tryd.prog 70 y70 := tyN (infoOf Tryd.type70) Tryd.underlying70 ⟨rfl, rfl⟩ (g := fun _ => by kernel_rfl) (f := fun ks h => by cases h; exact ⟨by kernel_rfl, 8, by kernel_rfl, by decide⟩)
def y74 : TyI := ⟨1, 8, false, [.lit .i64 0], .int .i64, none⟩
theorem ok74 : TyOK Tryd.prog 74 y74 := tyN (infoOf Tryd.type74) Tryd.underlying74 rfl
def y75 : TyI := ⟨3, 40, true, [.lit .i64 0, .lit .u32 0, .val (.slice none 0 0)], .st [(0, 74), (1, 28), (2, 22)], none⟩
theorem ok75 : TyOK Tryd.prog 75 y75 := tyN (infoOf Tryd.type75) Tryd.underlying75 (descSt (by kernel_rfl))
def y76 : TyI := ⟨3, 40, true, [.lit .i64 0, .lit .u32 0, .val (.slice none 0 0)], .st [(0, 74), (1, 28), (2, 22)], none⟩
theorem ok76 : TyOK Tryd.prog 76 y76 := tyN (infoOf Tryd.type76) Tryd.underlying76 (descSt (by kernel_rfl))
def y83 : TyI := ⟨2, 48, true, [.val (.slice none 0 0), .val (.slice none 0 0)], .st [(0, 22), (1, 22)], none⟩
theorem ok83 : TyOK Tryd.prog 83 y83 := tyN (infoOf Tryd.type83) Tryd.underlying83 (descSt (by kernel_rfl))
def y84 : TyI := ⟨2, 48, true, [.val (.slice none 0 0), .val (.slice none 0 0)], .st [(0, 22), (1, 22)], none⟩
theorem ok84 : TyOK Tryd.prog 84 y84 := tyN (infoOf Tryd.type84) Tryd.underlying84 (descSt (by kernel_rfl))
def y88 : TyI := ⟨31, 192, true, [.val (.slice none 0 0), .val (.slice none 0 0), .lit .i64 0, .lit .i64 0, .val (.slice none 0 0), .ints .u32 26 (List.replicate 26 0)], .st [(0, 61), (1, 61), (2, 3), (3, 3), (4, 22), (5, 70)], none⟩
theorem ok88 : TyOK Tryd.prog 88 y88 := tyN (infoOf Tryd.type88) Tryd.underlying88 (descSt (by kernel_rfl))
def y89 : TyI := ⟨31, 192, true, [.val (.slice none 0 0), .val (.slice none 0 0), .lit .i64 0, .lit .i64 0, .val (.slice none 0 0), .ints .u32 26 (List.replicate 26 0)], .st [(0, 61), (1, 61), (2, 3), (3, 3), (4, 22), (5, 70)], none⟩
theorem ok89 : TyOK Tryd.prog 89 y89 := tyN (infoOf Tryd.type89) Tryd.underlying89 (descSt (by kernel_rfl))
def y91 : TyI := ⟨1, 24, false, [.val (.slice none 0 0)], .sl 100, none⟩
theorem ok91 : TyOK Tryd.prog 91 y91 := tyN (infoOf Tryd.type91) Tryd.underlying91 rfl
def y99 : TyI := ⟨3, 40, true, [.lit .i64 0, .lit .u32 0, .val (.slice none 0 0)], .st [(0, 3), (1, 28), (2, 22)], none⟩
theorem ok99 : TyOK Tryd.prog 99 y99 := tyN (infoOf Tryd.type99) Tryd.underlying99 (descSt (by kernel_rfl))
def y100 : TyI := ⟨3, 40, true, [.lit .i64 0, .lit .u32 0, .val (.slice none 0 0)], .st [(0, 3), (1, 28), (2, 22)], none⟩
theorem ok100 : TyOK Tryd.prog 100 y100 := tyN (infoOf Tryd.type100) Tryd.underlying100 (descSt (by kernel_rfl))
def y101 : TyI := ⟨2, 48, true, [.val (.slice none 0 0), .val (.slice none 0 0)], .st [(0, 22), (1, 22)], none⟩
theorem ok101 : TyOK Tryd.prog 101 y101 := tyN (infoOf Tryd.type101) Tryd.underlying101 (descSt (by kernel_rfl))
def y106 : TyI := ⟨1, 24, false, [.val (.slice none 0 0)], .sl 113, none⟩
theorem ok106 : TyOK Tryd.prog 106 y106 := tyN (infoOf Tryd.type106) Tryd.underlying106 rfl
def y107 : TyI := ⟨1, 24, false, [.val (.slice none 0 0)], .sl 62, none⟩
theorem ok107 : TyOK Tryd.prog 107 y107 := tyN (infoOf Tryd.type107) Tryd.underlying107 rfl
def y108 : TyI := ⟨1, 24, false, [.val (.slice none 0 0)], .sl 22, none⟩
theorem ok108 : TyOK Tryd.prog 108 y108 := tyN (infoOf Tryd.type108) Tryd.underlying108 rfl
def y112 : TyI := ⟨3, 56, true, [.val (.slice none 0 0), .val (.slice none 0 0), .lit .u32 0], .st [(0, 22), (1, 22), (2, 28)], none⟩
theorem ok112 : TyOK Tryd.prog 112 y112 := tyN (infoOf Tryd.type112) Tryd.underlying112 (descSt (by kernel_rfl))
def y113 : TyI := ⟨3, 56, true, [.val (.slice none 0 0), .val (.slice none 0 0), .lit .u32 0], .st [(0, 22), (1, 22), (2, 28)], none⟩
theorem ok113 : TyOK Tryd.prog 113 y113 := tyN (infoOf Tryd.type113) Tryd.underlying113 (descSt (by kernel_rfl))
def y118 : TyI := ⟨1, 8, false, [.lit .u64 0], .int .u64, none⟩
theorem ok118 : TyOK Tryd.prog 118 y118 := tyN (infoOf Tryd.type118) Tryd.underlying118 rfl
def y122 : TyI := ⟨10, 64, true, [.lit .u32 0, .lit .u32 0, .lit .u32 0, .lit .u32 0, .lit .u32 0, .lit .u32 0, .lit .u32 0, .lit .u32 0, .lit .i64 0, .val (.slice none 0 0)], .st [(0, 29), (8, 2), (9, 22)], none⟩
theorem ok122 : TyOK Tryd.prog 122 y122 := tyN (infoOf Tryd.type122) Tryd.underlying122 (descSt (by kernel_rfl))
def y123 : TyI := ⟨10, 64, true, [.lit .u32 0, .lit .u32 0, .lit .u32 0, .lit .u32 0, .lit .u32 0, .lit .u32 0, .lit .u32 0, .lit .u32 0, .lit .i64 0, .val (.slice none 0 0)], .st [(0, 29), (8, 2), (9, 22)], none⟩
theorem ok123 : TyOK Tryd.prog 123 y123 := tyN (infoOf Tryd.type123) Tryd.underlying123 (descSt (by kernel_rfl))
def y125 : TyI := ⟨16, 64, true, [.ints .u32 16 (List.replicate 16 0)], .arr 16 28, some (List.replicate 16 (some .u32))⟩
theorem ok125 : TyOK Tryd.prog 125 y125 := tyN (infoOf Tryd.type125) Tryd.underlying125 ⟨rfl, rfl⟩ (g := fun _ => by kernel_rfl) (f := fun ks h => by cases h; exact ⟨by kernel_rfl, 8, by kernel_rfl, by decide⟩)
def y132 : TyI := ⟨1, 24, false, [.val (.slice none 0 0)], .sl 134, none⟩
theorem ok132 : TyOK Tryd.prog 132 y132 := tyN (infoOf Tryd.type132) Tryd.underlying132 rfl
def y133 : TyI := ⟨1, 16, false, [.val .nilIface], .other, none⟩
theorem ok133 : TyOK Tryd.prog 133 y133 := tyN (infoOf Tryd.type133) Tryd.underlying133 trivial
def y134 : TyI := ⟨1, 16, false, [.val .nilIface], .other, none⟩
theorem ok134 : TyOK Tryd.prog 134 y134 := tyN (infoOf Tryd.type134) Tryd.underlying134 trivial
def y138 : TyI := ⟨5, 56, true, [.lit .i64 0, .lit .u32 0, .val (.slice none 0 0), .lit .i64 0, .lit .u32 0], .st [(0, 3), (1, 28), (2, 22), (3, 3), (4, 28)], none⟩
theorem ok138 : TyOK Tryd.prog 138 y138 := tyN (infoOf Tryd.type138) Tryd.underlying138 (descSt (by kernel_rfl))
def y139 : TyI := ⟨5, 56, true, [.lit .i64 0, .lit .u32 0, .val (.slice none 0 0), .lit .i64 0, .lit .u32 0], .st [(0, 3), (1, 28), (2, 22), (3, 3), (4, 28)], none⟩
theorem ok139 : TyOK Tryd.prog 139 y139 := tyN (infoOf Tryd.type139) Tryd.underlying139 (descSt (by kernel_rfl))
def y144 : TyI := ⟨10, 64, true, [.lit .u32 0, .lit .u32 0, .lit .u32 0, .lit .u32 0, .lit .u32 0, .lit .u32 0, .lit .u32 0, .lit .u32 0, .val (.slice none 0 0), .lit .i64 0], .st [(0, 29), (8, 22), (9, 2)], none⟩
theorem ok144 : TyOK Tryd.prog 144 y144 := tyN (infoOf Tryd.type144) Tryd.underlying144 (descSt (by kernel_rfl))
def y145 : TyI := ⟨10, 64, true, [.lit .u32 0, .lit .u32 0, .lit .u32 0, .lit .u32 0, .lit .u32 0, .lit .u32 0, .lit .u32 0, .lit .u32 0, .val (.slice none 0 0), .lit .i64 0], .st [(0, 29), (8, 22), (9, 2)], none⟩
theorem ok145 : TyOK Tryd.prog 145 y145 := tyN (infoOf Tryd.type145) Tryd.underlying145 (descSt (by kernel_rfl))
def y151 : TyI := ⟨1, 8, false, [.lit .u64 0], .int .u64, none⟩
theorem ok151 : TyOK Tryd.prog 151 y151 := tyN (infoOf Tryd.type151) Tryd.underlying151 rfl
def y153 : TyI := ⟨64, 256, true, [.ints .u32 64 (List.replicate 64 0)], .arr 64 28, some (List.replicate 64 (some .u32))⟩
theorem ok153 : TyOK Tryd.prog 153 y153 := tyN (infoOf Tryd.type153) Tryd.underlying153 ⟨rfl, rfl⟩ (g := fun _ => by kernel_rfl) (f := fun ks h => by cases h; exact ⟨by kernel_rfl, 8, by kernel_rfl, by decide⟩)
def y157 : TyI := ⟨2, 32, true, [.lit .u32 0, .val (.slice none 0 0)], .st [(0, 28), (1, 22)], none⟩
theorem ok157 : TyOK Tryd.prog 157 y157 := tyN (infoOf Tryd.type157) Tryd.underlying157 (descSt (by kernel_rfl))
def y158 : TyI := ⟨2, 32, true, [.lit .u32 0, .val (.slice none 0 0)], .st [(0, 28), (1, 22)], none⟩
theorem ok158 : TyOK Tryd.prog 158 y158 := tyN (infoOf Tryd.type158) Tryd.underlying158 (descSt (by kernel_rfl))
def y159 : TyI := ⟨2, 16, true, [.lit .i64 0, .lit .u32 0], .st [(0, 74), (1, 28)], some (List.replicate 1 (some .i64) ++ List.replicate 1 (some .u32))⟩
theorem ok159 : TyOK Tryd.prog 159 y159 := tyN (infoOf Tryd.type159) Tryd.underlying159 (descSt (by kernel_rfl)) (g := fun _ => by kernel_rfl) (f := fun ks h => by cases h; exact ⟨by kernel_rfl, 8, by kernel_rfl, by decide⟩)
def y160 : TyI := ⟨2, 16, true, [.lit .i64 0, .lit .u32 0], .st [(0, 74), (1, 28)], some (List.replicate 1 (some .i64) ++ List.replicate 1 (some .u32))⟩
theorem ok160 : TyOK Tryd.prog 160 y160 := tyN (infoOf Tryd.type160) Tryd.underlying160 (descSt (by kernel_rfl)) (g := fun _ => by kernel_rfl) (f := fun ks h => by cases h; exact ⟨by kernel_rfl, 8, by kernel_rfl, by decide⟩)
def y169 : TyI := ⟨4, 40, true, [.val (.pointer none), .val (.pointer none), .val (.pointer none), .str ⟨#[]⟩], .st [(0, 17), (1, 17), (2, 17), (3, 9)], none⟩
theorem ok169 : TyOK Tryd.prog 169 y169 := tyN (infoOf Tryd.type169) Tryd.underlying169 (descSt (by kernel_rfl))
def y170 : TyI := ⟨4, 40, true, [.val (.pointer none), .val (.pointer none), .val (.pointer none), .str ⟨#[]⟩], .st [(0, 17), (1, 17), (2, 17), (3, 9)], none⟩
theorem ok170 : TyOK Tryd.prog 170 y170 := tyN (infoOf Tryd.type170) Tryd.underlying170 (descSt (by kernel_rfl))
def y175 : TyI := ⟨1, 1, false, [.lit .u8 0], .int .u8, none⟩
theorem ok175 : TyOK Tryd.prog 175 y175 := tyN (infoOf Tryd.type175) Tryd.underlying175 rfl
def y176 : TyI := ⟨1, 1, false, [.lit .u8 0], .int .u8, none⟩
theorem ok176 : TyOK Tryd.prog 176 y176 := tyN (infoOf Tryd.type176) Tryd.underlying176 rfl
def y178 : TyI := ⟨1, 8, false, [.val (.pointer none)], .ptr 5, none⟩
theorem ok178 : TyOK Tryd.prog 178 y178 := tyN (infoOf Tryd.type178) Tryd.underlying178 rfl
def y179 : TyI := ⟨1, 4, false, [.lit .i32 0], .int .i32, none⟩
theorem ok179 : TyOK Tryd.prog 179 y179 := tyN (infoOf Tryd.type179) Tryd.underlying179 rfl
def y180 : TyI := ⟨1, 4, false, [.lit .i32 0], .int .i32, none⟩
theorem ok180 : TyOK Tryd.prog 180 y180 := tyN (infoOf Tryd.type180) Tryd.underlying180 rfl
def y181 : TyI := ⟨11, 48, true, [.lit .u64 0, .lit .u64 0, .lit .u32 0, .lit .u8 0, .lit .u8 0, .lit .u8 0, .lit .u8 0, .val .nilFunc, .val (.pointer none), .lit .i32 0, .lit .i32 0], .st [(0, 12), (1, 12), (2, 28), (3, 175), (4, 5), (5, 5), (6, 176), (7, 177), (8, 178), (9, 179), (10, 180)], none⟩
theorem ok181 : TyOK Tryd.prog 181 y181 := tyN (infoOf Tryd.type181) Tryd.underlying181 (descSt (by kernel_rfl))
def y182 : TyI := ⟨11, 48, true, [.lit .u64 0, .lit .u64 0, .lit .u32 0, .lit .u8 0, .lit .u8 0, .lit .u8 0, .lit .u8 0, .val .nilFunc, .val (.pointer none), .lit .i32 0, .lit .i32 0], .st [(0, 12), (1, 12), (2, 28), (3, 175), (4, 5), (5, 5), (6, 176), (7, 177), (8, 178), (9, 179), (10, 180)], none⟩
theorem ok182 : TyOK Tryd.prog 182 y182 := tyN (infoOf Tryd.type182) Tryd.underlying182 (descSt (by kernel_rfl))
def tab : Tab := [(2, y2), (3, y3), (4, y4), (5, y5), (6, y6), (7, y7), (8, y8), (9, y9), (10, y10), (11, y11), (12, y12), (13, y13), (14, y14), (15, y15), (16, y16), (17, y17), (18, y18), (19, y19), (20, y20), (21, y21), (22, y22), (23, y23), (24, y24), (25, y25), (26, y26), (28, y28), (29, y29), (34, y34), (38, y38), (39, y39), (40, y40), (43, y43), (44, y44), (46, y46), (52, y52), (53, y53), (54, y54), (55, y55), (56, y56), (57, y57), (58, y58), (61, y61), (62, y62), (70, y70), (74, y74), (75, y75), (76, y76), (83, y83), (84, y84), (88, y88), (89, y89), (91, y91), (99, y99), (100, y100), (101, y101), (106, y106), (107, y107), (108, y108), (112, y112), (113, y113), (118, y118), (122, y122), (123, y123), (125, y125), (132, y132), (133, y133), (134, y134), (138, y138), (139, y139), (144, y144), (145, y145), (151, y151), (153, y153), (157, y157), (158, y158), (159, y159), (160, y160), (169, y169), (170, y170), (175, y175), (176, y176), (178, y178), (179, y179), (180, y180), (181, y181), (182, y182)]
def AllOK : Tab → Prop
  | [] => True
  | p :: l => TyOK Tryd.prog p.1 p.2 ∧ AllOK l
theorem all_ok : ∀ (l : Tab), AllOK l → ∀ t i, List.lookup t l = some i → TyOK Tryd.prog t i
  | [], _, t, i, h => by simp at h
  | (d, v) :: l, hp, t, i, h => by
    rw [lookup_cons] at h
    by_cases hd : t = d
    · simp [hd] at h; subst h hd; exact hp.1
    · simp [hd] at h; exact all_ok l hp.2 t i h
theorem tab_ok : TabOK Tryd.prog tab := all_ok tab ⟨ok2, ok3, ok4, ok5, ok6, ok7, ok8, ok9, ok10, ok11, ok12, ok13, ok14, ok15, ok16, ok17, ok18, ok19, ok20, ok21, ok22, ok23, ok24, ok25, ok26, ok28, ok29, ok34, ok38, ok39, ok40, ok43, ok44, ok46, ok52, ok53, ok54, ok55, ok56, ok57, ok58, ok61, ok62, ok70, ok74, ok75, ok76, ok83, ok84, ok88, ok89, ok91, ok99, ok100, ok101, ok106, ok107, ok108, ok112, ok113, ok118, ok122, ok123, ok125, ok132, ok133, ok134, ok138, ok139, ok144, ok145, ok151, ok153, ok157, ok158, ok159, ok160, ok169, ok170, ok175, ok176, ok178, ok179, ok180, ok181, ok182, trivial⟩
noncomputable def fnL : List (Nat × Func) := [(2, Tryd.f2), (3, Tryd.f3), (4, Tryd.f4), (5, Tryd.f5), (6, Tryd.f6), (7, Tryd.f7), (8, Tryd.f8), (9, Tryd.f9), (10, Tryd.f10), (11, Tryd.f11), (12, Tryd.f12), (13, Tryd.f13), (14, Tryd.f14), (15, Tryd.f15), (16, Tryd.f16), (17, Tryd.f17), (18, Tryd.f18), (19, Tryd.f19), (20, Tryd.f20), (21, Tryd.f21), (22, Tryd.f22), (23, Tryd.f23), (24, Tryd.f24), (25, Tryd.f25), (26, Tryd.f26), (27, Tryd.f27), (28, Tryd.f28), (29, Tryd.f29), (30, Tryd.f30), (31, Tryd.f31), (32, Tryd.f32), (33, Tryd.f33), (34, Tryd.f34), (35, Tryd.f35), (36, Tryd.f36), (37, Tryd.f37), (38, Tryd.f38), (39, Tryd.f39), (40, Tryd.f40), (41, Tryd.f41), (42, Tryd.f42), (43, Tryd.f43), (44, Tryd.f44), (45, Tryd.f45), (46, Tryd.f46), (47, Tryd.f47), (48, Tryd.f48), (49, Tryd.f49), (50, Tryd.f50), (51, Tryd.f51), (52, Tryd.f52), (53, Tryd.f53), (54, Tryd.f54), (55, Tryd.f55), (56, Tryd.f56), (57, Tryd.f57), (58, Tryd.f58), (59, Tryd.f59), (60, Tryd.f60), (61, Tryd.f61), (62, Tryd.f62), (63, Tryd.f63), (64, Tryd.f64), (65, Tryd.f65), (66, Tryd.f66), (67, Tryd.f67), (68, Tryd.f68), (69, Tryd.f69), (70, Tryd.f70), (71, Tryd.f71), (72, Tryd.f72), (73, Tryd.f73), (74, Tryd.f74), (75, Tryd.f75), (76, Tryd.f76), (77, Tryd.f77), (78, Tryd.f78), (79, Tryd.f79), (80, Tryd.f80), (81, Tryd.f81), (82, Tryd.f82), (83, Tryd.f83), (84, Tryd.f84), (85, Tryd.f85), (86, Tryd.f86), (87, Tryd.f87), (88, Tryd.f88), (89, Tryd.f89), (90, Tryd.f90), (91, Tryd.f91), (92, Tryd.f92), (93, Tryd.f93), (94, Tryd.f94), (95, Tryd.f95), (96, Tryd.f96), (97, Tryd.f97), (98, Tryd.f98), (99, Tryd.f99), (100, Tryd.f100), (101, Tryd.f101), (102, Tryd.f102), (103, Tryd.f103), (104, Tryd.f104), (105, Tryd.f105), (106, Tryd.f106), (107, Tryd.f107), (124, Tryd.f124), (125, Tryd.f125), (131, Tryd.f131)]
noncomputable def fns (f : FuncId) : Option Func := List.lookup f fnL
def FnOK (f : Nat) (fn : Func) : Prop := Tryd.prog.funcs[f]? = some fn ∧ ∀ args w, (callFunc f args).run Tryd.prog w = .ok (.enter f args) w
def AllFn : List (Nat × Func) → Prop
  | [] => True
  | p :: l => FnOK p.1 p.2 ∧ AllFn l
theorem allFn : ∀ (l : List (Nat × Func)), AllFn l → ∀ f fn, List.lookup f l = some fn → FnOK f fn
  | [], _, t, i, h => by simp at h
  | (d, v) :: l, hp, t, i, h => by
    rw [lookup_cons] at h
    by_cases hd : t = d
    · simp [hd] at h; subst h hd; exact hp.1
    · simp [hd] at h; exact allFn l hp.2 t i h
theorem fnOK {f : Nat} {fn : Func} (hf : Tryd.prog.funcs[f]? = some fn) (hn : (fn.name == "runtime.NumGoroutine") = false) (hb : fn.body.isNone = false) : FnOK f fn := ⟨hf, callFunc_ok hf hn hb⟩
theorem fns_ok : FnsOK Tryd.prog fns := allFn fnL ⟨fnOK Tryd.func2 (by kernel_rfl) (by kernel_rfl), fnOK Tryd.func3 (by kernel_rfl) (by kernel_rfl), fnOK Tryd.func4 (by kernel_rfl) (by kernel_rfl), fnOK Tryd.func5 (by kernel_rfl) (by kernel_rfl), fnOK Tryd.func6 (by kernel_rfl) (by kernel_rfl), fnOK Tryd.func7 (by kernel_rfl) (by kernel_rfl), fnOK Tryd.func8 (by kernel_rfl) (by kernel_rfl), fnOK Tryd.func9 (by kernel_rfl) (by kernel_rfl), fnOK Tryd.func10 (by kernel_rfl) (by kernel_rfl), fnOK Tryd.func11 (by kernel_rfl) (by kernel_rfl), fnOK Tryd.func12 (by kernel_rfl) (by kernel_rfl), fnOK Tryd.func13 (by kernel_rfl) (by kernel_rfl), fnOK Tryd.func14 (by kernel_rfl) (by kernel_rfl), fnOK Tryd.func15 (by kernel_rfl) (by kernel_rfl), fnOK Tryd.func16 (by kernel_rfl) (by kernel_rfl), fnOK Tryd.func17 (by kernel_rfl) (by kernel_rfl), fnOK Tryd.func18 (by kernel_rfl) (by kernel_rfl), fnOK Tryd.func19 (by kernel_rfl) (by kernel_rfl), fnOK Tryd.func20 (by kernel_rfl) (by kernel_rfl), fnOK Tryd.func21 (by kernel_rfl) (by kernel_rfl), fnOK Tryd.func22 (by kernel_rfl) (by kernel_rfl), fnOK Tryd.func23 (by kernel_rfl) (by kernel_rfl), fnOK Tryd.func24 (by kernel_rfl) (by kernel_rfl), fnOK Tryd.func25 (by kernel_rfl) (by kernel_rfl), fnOK Tryd.func26 (by kernel_rfl) (by kernel_rfl), fnOK Tryd.func27 (by kernel_rfl) (by kernel_rfl), fnOK Tryd.func28 (by kernel_rfl) (by kernel_rfl), fnOK Tryd.func29 (by kernel_rfl) (by kernel_rfl), fnOK Tryd.func30 (by kernel_rfl) (by kernel_rfl), fnOK Tryd.func31 (by kernel_rfl) (by kernel_rfl), fnOK Tryd.func32 (by kernel_rfl) (by kernel_rfl), fnOK Tryd.func33 (by kernel_rfl) (by kernel_rfl), fnOK Tryd.func34 (by kernel_rfl) (by kernel_rfl), fnOK Tryd.func35 (by kernel_rfl) (by kernel_rfl), fnOK Tryd.func36 (by kernel_rfl) (by kernel_rfl), fnOK Tryd.func37 (by kernel_rfl) (by kernel_rfl), fnOK Tryd.func38 (by kernel_rfl) (by kernel_rfl), fnOK Tryd.func39 (by kernel_rfl) (by kernel_rfl), fnOK Tryd.func40 (by kernel_rfl) (by kernel_rfl), fnOK Tryd.func41 (by kernel_rfl) (by kernel_rfl), fnOK Tryd.func42 (by kernel_rfl) (by kernel_rfl), fnOK Tryd.func43 (by kernel_rfl) (by kernel_rfl), fnOK Tryd.func44 (by kernel_rfl) (by kernel_rfl), fnOK Tryd.func45 (by kernel_rfl) (by kernel_rfl), fnOK Tryd.func46 (by kernel_rfl) (by kernel_rfl), fnOK Tryd.func47 (by kernel_rfl) (by kernel_rfl), fnOK Tryd.func48 (by kernel_rfl) (by kernel_rfl), fnOK Tryd.func49 (by kernel_rfl) (by kernel_rfl), fnOK Tryd.func50 (by kernel_rfl) (by kernel_rfl), fnOK Tryd.func51 (by kernel_rfl) (by kernel_rfl), fnOK Tryd.func52 (by kernel_rfl) (by kernel_rfl), fnOK Tryd.func53 (by kernel_rfl) (by kernel_rfl), fnOK Tryd.func54 (by kernel_rfl) (by kernel_rfl), fnOK Tryd.func55 (by kernel_rfl) (by kernel_rfl), fnOK Tryd.func56 (by kernel_rfl) (by kernel_rfl), fnOK Tryd.func57 (by kernel_rfl) (by kernel_rfl), fnOK Tryd.func58 (by kernel_rfl) (by kernel_rfl), fnOK Tryd.func59 (by kernel_rfl) (by kernel_rfl), fnOK Tryd.func60 (by kernel_rfl) (by kernel_rfl), fnOK Tryd.func61 (by kernel_rfl) (by kernel_rfl), fnOK Tryd.func62 (by kernel_rfl) (by kernel_rfl), fnOK Tryd.func63 (by kernel_rfl) (by kernel_rfl), fnOK Tryd.func64 (by kernel_rfl) (by kernel_rfl), fnOK Tryd.func65 (by kernel_rfl) (by kernel_rfl), fnOK Tryd.func66 (by kernel_rfl) (by kernel_rfl), fnOK Tryd.func67 (by kernel_rfl) (by kernel_rfl), fnOK Tryd.func68 (by kernel_rfl) (by kernel_rfl), fnOK Tryd.func69 (by kernel_rfl) (by kernel_rfl), fnOK Tryd.func70 (by kernel_rfl) (by kernel_rfl), fnOK Tryd.func71 (by kernel_rfl) (by kernel_rfl), fnOK Tryd.func72 (by kernel_rfl) (by kernel_rfl), fnOK Tryd.func73 (by kernel_rfl) (by kernel_rfl), fnOK Tryd.func74 (by kernel_rfl) (by kernel_rfl), fnOK Tryd.func75 (by kernel_rfl) (by kernel_rfl), fnOK Tryd.func76 (by kernel_rfl) (by kernel_rfl), fnOK Tryd.func77 (by kernel_rfl) (by kernel_rfl), fnOK Tryd.func78 (by kernel_rfl) (by kernel_rfl), fnOK Tryd.func79 (by kernel_rfl) (by kernel_rfl), fnOK Tryd.func80 (by kernel_rfl) (by kernel_rfl), fnOK Tryd.func81 (by kernel_rfl) (by kernel_rfl), fnOK Tryd.func82 (by kernel_rfl) (by kernel_rfl), fnOK Tryd.func83 (by kernel_rfl) (by kernel_rfl), fnOK Tryd.func84 (by kernel_rfl) (by kernel_rfl), fnOK Tryd.func85 (by kernel_rfl) (by kernel_rfl), fnOK Tryd.func86 (by kernel_rfl) (by kernel_rfl), fnOK Tryd.func87 (by kernel_rfl) (by kernel_rfl), fnOK Tryd.func88 (by kernel_rfl) (by kernel_rfl), fnOK Tryd.func89 (by kernel_rfl) (by kernel_rfl), fnOK Tryd.func90 (by kernel_rfl) (by kernel_rfl), fnOK Tryd.func91 (by kernel_rfl) (by kernel_rfl), fnOK Tryd.func92 (by kernel_rfl) (by kernel_rfl), fnOK Tryd.func93 (by kernel_rfl) (by kernel_rfl), fnOK Tryd.func94 (by kernel_rfl) (by kernel_rfl), fnOK Tryd.func95 (by kernel_rfl) (by kernel_rfl), fnOK Tryd.func96 (by kernel_rfl) (by kernel_rfl), fnOK Tryd.func97 (by kernel_rfl) (by kernel_rfl), fnOK Tryd.func98 (by kernel_rfl) (by kernel_rfl), fnOK Tryd.func99 (by kernel_rfl) (by kernel_rfl), fnOK Tryd.func100 (by kernel_rfl) (by kernel_rfl), fnOK Tryd.func101 (by kernel_rfl) (by kernel_rfl), fnOK Tryd.func102 (by kernel_rfl) (by kernel_rfl), fnOK Tryd.func103 (by kernel_rfl) (by kernel_rfl), fnOK Tryd.func104 (by kernel_rfl) (by kernel_rfl), fnOK Tryd.func105 (by kernel_rfl) (by kernel_rfl), fnOK Tryd.func106 (by kernel_rfl) (by kernel_rfl), fnOK Tryd.func107 (by kernel_rfl) (by kernel_rfl), fnOK Tryd.func124 (by kernel_rfl) (by kernel_rfl), fnOK Tryd.func125 (by kernel_rfl) (by kernel_rfl), fnOK Tryd.func131 (by kernel_rfl) (by kernel_rfl), trivial⟩
theorem mixed : Tryd.prog.follows .mixedOrders = true := by kernel_rfl
end Sx
end Go.Proofs.YtheeaplnobdpoaaDoor
