/- The types of the program, for the symbolic executor. No condition. (Printed by wip/mktab.py.) -/
import Derived.Test.YtimjnajdpccjdaaDoorSxD
import Derived.Test.YtimjnajdpccjdaaDoorChecked
namespace Go.Proofs.YtimjnajdpccjdaaDoor
open Go.RowKit
set_option linter.unusedVariables false
set_option maxRecDepth 100000
namespace Sx
theorem tyN {P : Program} {t : TypeId} {i : TyI} {it : TypeInfo} {d : TypeDesc} (h1 : P.info? t = some it) (h7 : P.underlying t = some d) (h9 : DescOK d i.d) (h2 : it.size = i.size := by kernel_rfl) (hb : it.bytes = i.bytes := by kernel_rfl) (h3 : it.zero = some (it.zero.getD undef) := by kernel_rfl) (h4 : (it.zero.getD undef).cells.toList = cellsL Num.zero i.zero := by kernel_rfl) (h5 : it.zero.getD undef = (if i.agg then .agg (it.zero.getD undef).cells else (it.zero.getD undef).cells.toList.headD undef) := by kernel_rfl) (h6 : plainL i.zero = true := by kernel_rfl) (h8 : isAggD d = i.agg := by kernel_rfl) (g : i.flat ≠ none → P.eqGuardType P.depth t = false := by exact fun h => absurd rfl h) (f : ∀ ks, i.flat = some ks → isAggT P t = true ∧ ∃ n, flatAt P n t = some ks ∧ n ≤ Op.maxDepth := by exact fun ks h => nomatch h) : TyOK P t i :=
  ⟨⟨it, it.zero.getD undef, h1, h2, hb, h3, h4, h5⟩, h6, ⟨d, h7, h8, h9⟩, g, f⟩
theorem descSt {fs : Array Field} {l : List (Nat × TypeId)} (h : fs.toList.map (fun f => (f.offset, f.type)) = l) : DescOK (.struct fs) (.st l) := h
theorem infoOf {t : TypeId} {it : TypeInfo} (h : Tryd.prog.types[t]? = some it) : Tryd.prog.info? t = some it := by
  unfold Tables.info?
  rw [if_pos (Array.getElem?_eq_some_iff.1 h).1]; exact h
def y2 : TyI := ⟨1, 8, false, [.lit .i64 0], .int .i64, none⟩
theorem ok2 : TyOK Tryd.prog 2 y2 := tyN (infoOf Tryd.type2) Tryd.underlying2 rfl
def y3 : TyI := ⟨1, 8, false, [.lit .i64 0], .int .i64, none⟩
theorem ok3 : TyOK Tryd.prog 3 y3 := tyN (infoOf Tryd.type3) Tryd.underlying3 rfl
def y4 : TyI := ⟨1, 1, false, [.litb false], .bool, none⟩
theorem ok4 : TyOK Tryd.prog 4 y4 := tyN (infoOf Tryd.type4) Tryd.underlying4 trivial
def y5 : TyI := ⟨1, 1, false, [.lit .u8 0], .int .u8, none⟩
theorem ok5 : TyOK Tryd.prog 5 y5 := tyN (infoOf Tryd.type5) Tryd.underlying5 rfl
def y6 : TyI := ⟨1, 1, false, [.lit .u8 0], .int .u8, none⟩
theorem ok6 : TyOK Tryd.prog 6 y6 := tyN (infoOf Tryd.type6) Tryd.underlying6 rfl
def y7 : TyI := ⟨4, 24, true, [.lit .i64 0, .lit .i64 0, .litb false, .lit .u8 0], .st [(0, 2), (1, 3), (2, 4), (3, 6)], some (List.replicate 1 (some .i64) ++ List.replicate 1 (some .i64) ++ List.replicate 1 (none) ++ List.replicate 1 (some .u8))⟩
theorem ok7 : TyOK Tryd.prog 7 y7 := tyN (infoOf Tryd.type7) Tryd.underlying7 (descSt (by kernel_rfl)) (g := fun _ => by kernel_rfl) (f := fun ks h => by cases h; exact ⟨by kernel_rfl, 8, by kernel_rfl, by decide⟩)
def y8 : TyI := ⟨4, 24, true, [.lit .i64 0, .lit .i64 0, .litb false, .lit .u8 0], .st [(0, 2), (1, 3), (2, 4), (3, 6)], some (List.replicate 1 (some .i64) ++ List.replicate 1 (some .i64) ++ List.replicate 1 (none) ++ List.replicate 1 (some .u8))⟩
theorem ok8 : TyOK Tryd.prog 8 y8 := tyN (infoOf Tryd.type8) Tryd.underlying8 (descSt (by kernel_rfl)) (g := fun _ => by kernel_rfl) (f := fun ks h => by cases h; exact ⟨by kernel_rfl, 8, by kernel_rfl, by decide⟩)
def y9 : TyI := ⟨1, 16, false, [.str ⟨#[]⟩], .str, none⟩
theorem ok9 : TyOK Tryd.prog 9 y9 := tyN (infoOf Tryd.type9) Tryd.underlying9 trivial
def y10 : TyI := ⟨1, 16, false, [.str ⟨#[]⟩], .str, none⟩
theorem ok10 : TyOK Tryd.prog 10 y10 := tyN (infoOf Tryd.type10) Tryd.underlying10 trivial
def y11 : TyI := ⟨1, 16, false, [.str ⟨#[]⟩], .str, none⟩
theorem ok11 : TyOK Tryd.prog 11 y11 := tyN (infoOf Tryd.type11) Tryd.underlying11 trivial
def y12 : TyI := ⟨1, 8, false, [.lit .u64 0], .int .u64, none⟩
theorem ok12 : TyOK Tryd.prog 12 y12 := tyN (infoOf Tryd.type12) Tryd.underlying12 rfl
def y13 : TyI := ⟨2, 24, true, [.str ⟨#[]⟩, .lit .u64 0], .st [(0, 9), (1, 12)], none⟩
theorem ok13 : TyOK Tryd.prog 13 y13 := tyN (infoOf Tryd.type13) Tryd.underlying13 (descSt (by kernel_rfl))
def y14 : TyI := ⟨2, 24, true, [.str ⟨#[]⟩, .lit .u64 0], .st [(0, 9), (1, 12)], none⟩
theorem ok14 : TyOK Tryd.prog 14 y14 := tyN (infoOf Tryd.type14) Tryd.underlying14 (descSt (by kernel_rfl))
def y15 : TyI := ⟨1, 8, false, [.val (.pointer none)], .ptr 271, none⟩
theorem ok15 : TyOK Tryd.prog 15 y15 := tyN (infoOf Tryd.type15) Tryd.underlying15 rfl
def y16 : TyI := ⟨1, 8, false, [.val (.pointer none)], .ptr 274, none⟩
theorem ok16 : TyOK Tryd.prog 16 y16 := tyN (infoOf Tryd.type16) Tryd.underlying16 rfl
def y17 : TyI := ⟨1, 8, false, [.val (.pointer none)], .ptr 282, none⟩
theorem ok17 : TyOK Tryd.prog 17 y17 := tyN (infoOf Tryd.type17) Tryd.underlying17 rfl
def y18 : TyI := ⟨1, 8, true, [.val (.pointer none)], .st [(0, 17)], none⟩
theorem ok18 : TyOK Tryd.prog 18 y18 := tyN (infoOf Tryd.type18) Tryd.underlying18 (descSt (by kernel_rfl))
def y19 : TyI := ⟨1, 8, true, [.val (.pointer none)], .st [(0, 17)], none⟩
theorem ok19 : TyOK Tryd.prog 19 y19 := tyN (infoOf Tryd.type19) Tryd.underlying19 (descSt (by kernel_rfl))
def y20 : TyI := ⟨1, 16, false, [.val .nilIface], .other, none⟩
theorem ok20 : TyOK Tryd.prog 20 y20 := tyN (infoOf Tryd.type20) Tryd.underlying20 trivial
def y21 : TyI := ⟨1, 4, false, [.lit .i32 0], .int .i32, none⟩
theorem ok21 : TyOK Tryd.prog 21 y21 := tyN (infoOf Tryd.type21) Tryd.underlying21 rfl
def y22 : TyI := ⟨1, 24, false, [.val (.slice none 0 0)], .sl 115, none⟩
theorem ok22 : TyOK Tryd.prog 22 y22 := tyN (infoOf Tryd.type22) Tryd.underlying22 rfl
def y23 : TyI := ⟨1, 4, false, [.lit .u32 0], .int .u32, none⟩
theorem ok23 : TyOK Tryd.prog 23 y23 := tyN (infoOf Tryd.type23) Tryd.underlying23 rfl
def y24 : TyI := ⟨15, 60, true, [.ints .u32 15 (List.replicate 15 0)], .arr 15 23, some (List.replicate 15 (some .u32))⟩
theorem ok24 : TyOK Tryd.prog 24 y24 := tyN (infoOf Tryd.type24) Tryd.underlying24 ⟨rfl, rfl⟩ (g := fun _ => by kernel_rfl) (f := fun ks h => by cases h; exact ⟨by kernel_rfl, 8, by kernel_rfl, by decide⟩)
def y25 : TyI := ⟨19, 68, true, [.ints .u32 15 (List.replicate 15 0), .lit .u32 0, .litb false, .litb false, .litb false], .st [(0, 24), (15, 23), (16, 4), (17, 4), (18, 4)], some (List.replicate 15 (some .u32) ++ List.replicate 1 (some .u32) ++ List.replicate 1 (none) ++ List.replicate 1 (none) ++ List.replicate 1 (none))⟩
theorem ok25 : TyOK Tryd.prog 25 y25 := tyN (infoOf Tryd.type25) Tryd.underlying25 (descSt (by kernel_rfl)) (g := fun _ => by kernel_rfl) (f := fun ks h => by cases h; exact ⟨by kernel_rfl, 8, by kernel_rfl, by decide⟩)
def y26 : TyI := ⟨19, 68, true, [.ints .u32 15 (List.replicate 15 0), .lit .u32 0, .litb false, .litb false, .litb false], .st [(0, 24), (15, 23), (16, 4), (17, 4), (18, 4)], some (List.replicate 15 (some .u32) ++ List.replicate 1 (some .u32) ++ List.replicate 1 (none) ++ List.replicate 1 (none) ++ List.replicate 1 (none))⟩
theorem ok26 : TyOK Tryd.prog 26 y26 := tyN (infoOf Tryd.type26) Tryd.underlying26 (descSt (by kernel_rfl)) (g := fun _ => by kernel_rfl) (f := fun ks h => by cases h; exact ⟨by kernel_rfl, 8, by kernel_rfl, by decide⟩)
def y27 : TyI := ⟨23, 120, true, [.lit .i64 0, .lit .i64 0, .val (.slice none 0 0), .lit .i64 0, .ints .u32 15 (List.replicate 15 0), .lit .u32 0, .litb false, .litb false, .litb false], .st [(0, 3), (1, 3), (2, 22), (3, 3), (4, 26)], none⟩
theorem ok27 : TyOK Tryd.prog 27 y27 := tyN (infoOf Tryd.type27) Tryd.underlying27 (descSt (by kernel_rfl))
def y28 : TyI := ⟨23, 120, true, [.lit .i64 0, .lit .i64 0, .val (.slice none 0 0), .lit .i64 0, .ints .u32 15 (List.replicate 15 0), .lit .u32 0, .litb false, .litb false, .litb false], .st [(0, 3), (1, 3), (2, 22), (3, 3), (4, 26)], none⟩
theorem ok28 : TyOK Tryd.prog 28 y28 := tyN (infoOf Tryd.type28) Tryd.underlying28 (descSt (by kernel_rfl))
def y29 : TyI := ⟨1, 8, false, [.val (.pointer none)], .ptr 120, none⟩
theorem ok29 : TyOK Tryd.prog 29 y29 := tyN (infoOf Tryd.type29) Tryd.underlying29 rfl
def y33 : TyI := ⟨2, 16, true, [.litb false, .lit .i64 0], .st [(0, 4), (1, 3)], some (List.replicate 1 (none) ++ List.replicate 1 (some .i64))⟩
theorem ok33 : TyOK Tryd.prog 33 y33 := tyN (infoOf Tryd.type33) Tryd.underlying33 (descSt (by kernel_rfl)) (g := fun _ => by kernel_rfl) (f := fun ks h => by cases h; exact ⟨by kernel_rfl, 8, by kernel_rfl, by decide⟩)
def y34 : TyI := ⟨2, 16, true, [.litb false, .lit .i64 0], .st [(0, 4), (1, 3)], some (List.replicate 1 (none) ++ List.replicate 1 (some .i64))⟩
theorem ok34 : TyOK Tryd.prog 34 y34 := tyN (infoOf Tryd.type34) Tryd.underlying34 (descSt (by kernel_rfl)) (g := fun _ => by kernel_rfl) (f := fun ks h => by cases h; exact ⟨by kernel_rfl, 8, by kernel_rfl, by decide⟩)
def y35 : TyI := ⟨3, 24, true, [.litb false, .lit .i64 0, .lit .i64 0], .st [(0, 34), (2, 3)], some (List.replicate 1 (none) ++ List.replicate 1 (some .i64) ++ List.replicate 1 (some .i64))⟩
theorem ok35 : TyOK Tryd.prog 35 y35 := tyN (infoOf Tryd.type35) Tryd.underlying35 (descSt (by kernel_rfl)) (g := fun _ => by kernel_rfl) (f := fun ks h => by cases h; exact ⟨by kernel_rfl, 8, by kernel_rfl, by decide⟩)
def y36 : TyI := ⟨3, 24, true, [.litb false, .lit .i64 0, .lit .i64 0], .st [(0, 34), (2, 3)], some (List.replicate 1 (none) ++ List.replicate 1 (some .i64) ++ List.replicate 1 (some .i64))⟩
theorem ok36 : TyOK Tryd.prog 36 y36 := tyN (infoOf Tryd.type36) Tryd.underlying36 (descSt (by kernel_rfl)) (g := fun _ => by kernel_rfl) (f := fun ks h => by cases h; exact ⟨by kernel_rfl, 8, by kernel_rfl, by decide⟩)
def y39 : TyI := ⟨1, 8, false, [.lit .i64 0], .int .i64, none⟩
theorem ok39 : TyOK Tryd.prog 39 y39 := tyN (infoOf Tryd.type39) Tryd.underlying39 rfl
def y40 : TyI := ⟨1, 8, false, [.lit .i64 0], .int .i64, none⟩
theorem ok40 : TyOK Tryd.prog 40 y40 := tyN (infoOf Tryd.type40) Tryd.underlying40 rfl
def y41 : TyI := ⟨2, 16, true, [.lit .i64 0, .lit .u32 0], .st [(0, 40), (1, 23)], some (List.replicate 1 (some .i64) ++ List.replicate 1 (some .u32))⟩
theorem ok41 : TyOK Tryd.prog 41 y41 := tyN (infoOf Tryd.type41) Tryd.underlying41 (descSt (by kernel_rfl)) (g := fun _ => by kernel_rfl) (f := fun ks h => by cases h; exact ⟨by kernel_rfl, 8, by kernel_rfl, by decide⟩)
def y42 : TyI := ⟨2, 16, true, [.lit .i64 0, .lit .u32 0], .st [(0, 40), (1, 23)], some (List.replicate 1 (some .i64) ++ List.replicate 1 (some .u32))⟩
theorem ok42 : TyOK Tryd.prog 42 y42 := tyN (infoOf Tryd.type42) Tryd.underlying42 (descSt (by kernel_rfl)) (g := fun _ => by kernel_rfl) (f := fun ks h => by cases h; exact ⟨by kernel_rfl, 8, by kernel_rfl, by decide⟩)
def y47 : TyI := ⟨1, 8, false, [.lit .i64 0], .int .i64, none⟩
theorem ok47 : TyOK Tryd.prog 47 y47 := tyN (infoOf Tryd.type47) Tryd.underlying47 rfl
def y48 : TyI := ⟨1, 8, false, [.lit .i64 0], .int .i64, none⟩
theorem ok48 : TyOK Tryd.prog 48 y48 := tyN (infoOf Tryd.type48) Tryd.underlying48 rfl
def y49 : TyI := ⟨6, 48, true, [.lit .i64 0, .lit .i64 0, .lit .i64 0, .lit .i64 0, .lit .i64 0, .lit .i32 0], .st [(0, 47), (1, 48), (2, 3), (3, 3), (4, 3), (5, 21)], some (List.replicate 1 (some .i64) ++ List.replicate 1 (some .i64) ++ List.replicate 1 (some .i64) ++ List.replicate 1 (some .i64) ++ List.replicate 1 (some .i64) ++ List.replicate 1 (some .i32))⟩
theorem ok49 : TyOK Tryd.prog 49 y49 := tyN (infoOf Tryd.type49) Tryd.underlying49 (descSt (by kernel_rfl)) (g := fun _ => by kernel_rfl) (f := fun ks h => by cases h; exact ⟨by kernel_rfl, 8, by kernel_rfl, by decide⟩)
def y50 : TyI := ⟨6, 48, true, [.lit .i64 0, .lit .i64 0, .lit .i64 0, .lit .i64 0, .lit .i64 0, .lit .i32 0], .st [(0, 47), (1, 48), (2, 3), (3, 3), (4, 3), (5, 21)], some (List.replicate 1 (some .i64) ++ List.replicate 1 (some .i64) ++ List.replicate 1 (some .i64) ++ List.replicate 1 (some .i64) ++ List.replicate 1 (some .i64) ++ List.replicate 1 (some .i32))⟩
theorem ok50 : TyOK Tryd.prog 50 y50 := tyN (infoOf Tryd.type50) Tryd.underlying50 (descSt (by kernel_rfl)) (g := fun _ => by kernel_rfl) (f := fun ks h => by cases h; exact ⟨by kernel_rfl, 8, by kernel_rfl, by decide⟩)
def y51 : TyI := ⟨1, 8, false, [.lit .i64 0], .int .i64, none⟩
theorem ok51 : TyOK Tryd.prog 51 y51 := tyN (infoOf Tryd.type51) Tryd.underlying51 rfl
def y57 : TyI := ⟨1, 24, false, [.val (.slice none 0 0)], .sl 36, none⟩
theorem ok57 : TyOK Tryd.prog 57 y57 := tyN (infoOf Tryd.type57) Tryd.underlying57 rfl
def y58 : TyI := ⟨5, 56, true, [.val (.slice none 0 0), .litb false, .litb false, .lit .i64 0, .lit .i64 0], .st [(0, 57), (1, 4), (2, 36)], none⟩
theorem ok58 : TyOK Tryd.prog 58 y58 := tyN (infoOf Tryd.type58) Tryd.underlying58 (descSt (by kernel_rfl))
def y59 : TyI := ⟨5, 56, true, [.val (.slice none 0 0), .litb false, .litb false, .lit .i64 0, .lit .i64 0], .st [(0, 57), (1, 4), (2, 36)], none⟩
theorem ok59 : TyOK Tryd.prog 59 y59 := tyN (infoOf Tryd.type59) Tryd.underlying59 (descSt (by kernel_rfl))
def y69 : TyI := ⟨1, 24, false, [.val (.slice none 0 0)], .sl 83, none⟩
theorem ok69 : TyOK Tryd.prog 69 y69 := tyN (infoOf Tryd.type69) Tryd.underlying69 rfl
def y70 : TyI := ⟨1, 8, false, [.val (.pointer none)], .ptr 151, none⟩
theorem ok70 : TyOK Tryd.prog 70 y70 := tyN (infoOf Tryd.type70) Tryd.underlying70 rfl
def y72 : TyI := ⟨1, 24, false, [.val (.slice none 0 0)], .sl 3, none⟩
theorem ok72 : TyOK Tryd.prog 72 y72 := tyN (infoOf Tryd.type72) Tryd.underlying72 rfl
def y74 : TyI := ⟨1, 8, false, [.lit .i64 0], .int .i64, none⟩
theorem ok74 : TyOK Tryd.prog 74 y74 := tyN (infoOf Tryd.type74) Tryd.underlying74 rfl
def y75 : TyI := ⟨1, 8, false, [.lit .i64 0], .int .i64, none⟩
theorem ok75 : TyOK Tryd.prog 75 y75 := tyN (infoOf Tryd.type75) Tryd.underlying75 rfl
def y76 : TyI := ⟨5, 40, true, [.lit .i64 0, .lit .i64 0, .lit .i64 0, .lit .i64 0, .litb false], .st [(0, 74), (1, 3), (2, 3), (3, 75), (4, 4)], some (List.replicate 1 (some .i64) ++ List.replicate 1 (some .i64) ++ List.replicate 1 (some .i64) ++ List.replicate 1 (some .i64) ++ List.replicate 1 (none))⟩
theorem ok76 : TyOK Tryd.prog 76 y76 := tyN (infoOf Tryd.type76) Tryd.underlying76 (descSt (by kernel_rfl)) (g := fun _ => by kernel_rfl) (f := fun ks h => by cases h; exact ⟨by kernel_rfl, 8, by kernel_rfl, by decide⟩)
def y77 : TyI := ⟨5, 40, true, [.lit .i64 0, .lit .i64 0, .lit .i64 0, .lit .i64 0, .litb false], .st [(0, 74), (1, 3), (2, 3), (3, 75), (4, 4)], some (List.replicate 1 (some .i64) ++ List.replicate 1 (some .i64) ++ List.replicate 1 (some .i64) ++ List.replicate 1 (some .i64) ++ List.replicate 1 (none))⟩
theorem ok77 : TyOK Tryd.prog 77 y77 := tyN (infoOf Tryd.type77) Tryd.underlying77 (descSt (by kernel_rfl)) (g := fun _ => by kernel_rfl) (f := fun ks h => by cases h; exact ⟨by kernel_rfl, 8, by kernel_rfl, by decide⟩)
def y79 : TyI := ⟨1, 24, false, [.val (.slice none 0 0)], .sl 72, none⟩
theorem ok79 : TyOK Tryd.prog 79 y79 := tyN (infoOf Tryd.type79) Tryd.underlying79 rfl
def y82 : TyI := ⟨6, 40, true, [.lit .i64 0, .lit .u32 0, .lit .u32 0, .lit .i64 0, .lit .i64 0, .lit .u32 0], .st [(0, 3), (1, 23), (2, 23), (3, 3), (4, 3), (5, 23)], some (List.replicate 1 (some .i64) ++ List.replicate 1 (some .u32) ++ List.replicate 1 (some .u32) ++ List.replicate 1 (some .i64) ++ List.replicate 1 (some .i64) ++ List.replicate 1 (some .u32))⟩
theorem ok82 : TyOK Tryd.prog 82 y82 := tyN (infoOf Tryd.type82) Tryd.underlying82 (descSt (by kernel_rfl)) (g := fun _ => by kernel_rfl) (f := fun ks h => by cases h; exact ⟨by kernel_rfl, 8, by kernel_rfl, by decide⟩)
def y83 : TyI := ⟨6, 40, true, [.lit .i64 0, .lit .u32 0, .lit .u32 0, .lit .i64 0, .lit .i64 0, .lit .u32 0], .st [(0, 3), (1, 23), (2, 23), (3, 3), (4, 3), (5, 23)], some (List.replicate 1 (some .i64) ++ List.replicate 1 (some .u32) ++ List.replicate 1 (some .u32) ++ List.replicate 1 (some .i64) ++ List.replicate 1 (some .i64) ++ List.replicate 1 (some .u32))⟩
theorem ok83 : TyOK Tryd.prog 83 y83 := tyN (infoOf Tryd.type83) Tryd.underlying83 (descSt (by kernel_rfl)) (g := fun _ => by kernel_rfl) (f := fun ks h => by cases h; exact ⟨by kernel_rfl, 8, by kernel_rfl, by decide⟩)
def y85 : TyI := ⟨1, 4, false, [.lit .u32 0], .int .u32, none⟩
theorem ok85 : TyOK Tryd.prog 85 y85 := tyN (infoOf Tryd.type85) Tryd.underlying85 rfl
def y97 : TyI := ⟨26, 104, true, [.ints .u32 26 (List.replicate 26 0)], .arr 26 23, some (List.replicate 26 (some .u32))⟩
theorem ok97 : TyOK Tryd.prog 97 y97 := tyN (infoOf Tryd.type97) Tryd.underlying97 ⟨rfl, rfl⟩ (g := fun _ => by kernel_rfl) (f := fun ks h => by cases h; exact ⟨by kernel_rfl, 8, by kernel_rfl, by decide⟩)
def y99 : TyI := ⟨1, 24, false, [.val (.slice none 0 0)], .sl 104, none⟩
theorem ok99 : TyOK Tryd.prog 99 y99 := tyN (infoOf Tryd.type99) Tryd.underlying99 rfl
def y101 : TyI := ⟨1, 8, false, [.lit .i64 0], .int .i64, none⟩
theorem ok101 : TyOK Tryd.prog 101 y101 := tyN (infoOf Tryd.type101) Tryd.underlying101 rfl
def y102 : TyI := ⟨1, 24, false, [.val (.slice none 0 0)], .sl 23, none⟩
theorem ok102 : TyOK Tryd.prog 102 y102 := tyN (infoOf Tryd.type102) Tryd.underlying102 rfl
def y103 : TyI := ⟨3, 40, true, [.lit .i64 0, .lit .u32 0, .val (.slice none 0 0)], .st [(0, 101), (1, 23), (2, 102)], none⟩
theorem ok103 : TyOK Tryd.prog 103 y103 := tyN (infoOf Tryd.type103) Tryd.underlying103 (descSt (by kernel_rfl))
def y104 : TyI := ⟨3, 40, true, [.lit .i64 0, .lit .u32 0, .val (.slice none 0 0)], .st [(0, 101), (1, 23), (2, 102)], none⟩
theorem ok104 : TyOK Tryd.prog 104 y104 := tyN (infoOf Tryd.type104) Tryd.underlying104 (descSt (by kernel_rfl))
def y106 : TyI := ⟨8, 32, true, [.lit .u32 0, .lit .u32 0, .lit .u32 0, .lit .u32 0, .lit .u32 0, .lit .u32 0, .lit .u32 0, .lit .u32 0], .arr 8 23, some (List.replicate 8 (some .u32))⟩
theorem ok106 : TyOK Tryd.prog 106 y106 := tyN (infoOf Tryd.type106) Tryd.underlying106 ⟨rfl, rfl⟩ (g := fun _ => by kernel_rfl) (f := fun ks h => by cases h; exact ⟨by kernel_rfl, 8, by kernel_rfl, by decide⟩)
def y111 : TyI := ⟨8, 8, true, [.litb false, .litb false, .litb false, .litb false, .litb false, .litb false, .litb false, .litb false], .arr 8 4, some (List.replicate 8 (none))⟩
theorem ok111 : TyOK Tryd.prog 111 y111 := tyN (infoOf Tryd.type111) Tryd.underlying111 ⟨rfl, rfl⟩ (g := fun _ => by kernel_rfl) (f := fun ks h => by cases h; exact ⟨by kernel_rfl, 8, by kernel_rfl, by decide⟩)
def y114 : TyI := ⟨4, 48, true, [.litb false, .lit .i64 0, .lit .i64 0, .val (.slice none 0 0)], .st [(0, 34), (2, 3), (3, 102)], none⟩
theorem ok114 : TyOK Tryd.prog 114 y114 := tyN (infoOf Tryd.type114) Tryd.underlying114 (descSt (by kernel_rfl))
def y115 : TyI := ⟨4, 48, true, [.litb false, .lit .i64 0, .lit .i64 0, .val (.slice none 0 0)], .st [(0, 34), (2, 3), (3, 102)], none⟩
theorem ok115 : TyOK Tryd.prog 115 y115 := tyN (infoOf Tryd.type115) Tryd.underlying115 (descSt (by kernel_rfl))
def y117 : TyI := ⟨1, 24, false, [.val (.slice none 0 0)], .sl 129, none⟩
theorem ok117 : TyOK Tryd.prog 117 y117 := tyN (infoOf Tryd.type117) Tryd.underlying117 rfl
def y119 : TyI := ⟨3, 56, true, [.val (.slice none 0 0), .val (.slice none 0 0), .lit .i64 0], .st [(0, 117), (1, 117), (2, 2)], none⟩
theorem ok119 : TyOK Tryd.prog 119 y119 := tyN (infoOf Tryd.type119) Tryd.underlying119 (descSt (by kernel_rfl))
def y120 : TyI := ⟨3, 56, true, [.val (.slice none 0 0), .val (.slice none 0 0), .lit .i64 0], .st [(0, 117), (1, 117), (2, 2)], none⟩
theorem ok120 : TyOK Tryd.prog 120 y120 := tyN (infoOf Tryd.type120) Tryd.underlying120 (descSt (by kernel_rfl))
def y125 : TyI := ⟨1, 8, false, [.val (.pointer none)], .ptr 127, none⟩
theorem ok125 : TyOK Tryd.prog 125 y125 := tyN (infoOf Tryd.type125) Tryd.underlying125 rfl
def y126 : TyI := ⟨21, 88, true, [.val (.pointer none), .lit .i64 0, .ints .u32 15 (List.replicate 15 0), .lit .u32 0, .litb false, .litb false, .litb false], .st [(0, 29), (1, 3), (2, 26)], none⟩
theorem ok126 : TyOK Tryd.prog 126 y126 := tyN (infoOf Tryd.type126) Tryd.underlying126 (descSt (by kernel_rfl))
def y127 : TyI := ⟨21, 88, true, [.val (.pointer none), .lit .i64 0, .ints .u32 15 (List.replicate 15 0), .lit .u32 0, .litb false, .litb false, .litb false], .st [(0, 29), (1, 3), (2, 26)], none⟩
theorem ok127 : TyOK Tryd.prog 127 y127 := tyN (infoOf Tryd.type127) Tryd.underlying127 (descSt (by kernel_rfl))
def y129 : TyI := ⟨1, 8, false, [.val (.pointer none)], .ptr 155, none⟩
theorem ok129 : TyOK Tryd.prog 129 y129 := tyN (infoOf Tryd.type129) Tryd.underlying129 rfl
def y136 : TyI := ⟨1, 8, false, [.val (.pointer none)], .ptr 23, none⟩
theorem ok136 : TyOK Tryd.prog 136 y136 := tyN (infoOf Tryd.type136) Tryd.underlying136 rfl
def y145 : TyI := ⟨1, 8, false, [.val (.pointer none)], .ptr 245, none⟩
theorem ok145 : TyOK Tryd.prog 145 y145 := tyN (infoOf Tryd.type145) Tryd.underlying145 rfl
def y146 : TyI := ⟨2, 16, true, [.val (.pointer none), .val (.pointer none)], .st [(0, 70), (1, 145)], none⟩
theorem ok146 : TyOK Tryd.prog 146 y146 := tyN (infoOf Tryd.type146) Tryd.underlying146 (descSt (by kernel_rfl))
def y147 : TyI := ⟨2, 16, true, [.val (.pointer none), .val (.pointer none)], .st [(0, 70), (1, 145)], none⟩
theorem ok147 : TyOK Tryd.prog 147 y147 := tyN (infoOf Tryd.type147) Tryd.underlying147 (descSt (by kernel_rfl))
def y150 : TyI := ⟨3, 40, true, [.val (.pointer none), .lit .i64 0, .val (.slice none 0 0)], .st [(0, 29), (1, 3), (2, 102)], none⟩
theorem ok150 : TyOK Tryd.prog 150 y150 := tyN (infoOf Tryd.type150) Tryd.underlying150 (descSt (by kernel_rfl))
def y151 : TyI := ⟨3, 40, true, [.val (.pointer none), .lit .i64 0, .val (.slice none 0 0)], .st [(0, 29), (1, 3), (2, 102)], none⟩
theorem ok151 : TyOK Tryd.prog 151 y151 := tyN (infoOf Tryd.type151) Tryd.underlying151 (descSt (by kernel_rfl))
def y154 : TyI := ⟨1024, 4096, true, [.ints .u32 1024 (List.replicate 1024 0)], .arr 1024 23, some (List.replicate 1024 (some .u32))⟩
theorem ok154 : TyOK Tryd.prog 154 y154 := tyN (infoOf Tryd.type154) Tryd.underlying154 ⟨rfl, rfl⟩ (g := fun _ => by kernel_rfl) (f := fun ks h => by cases h; exact ⟨by kernel_rfl, 8, by kernel_rfl, by decide⟩)
def y155 : TyI := ⟨1024, 4096, true, [.ints .u32 1024 (List.replicate 1024 0)], .arr 1024 23, some (List.replicate 1024 (some .u32))⟩
theorem ok155 : TyOK Tryd.prog 155 y155 := tyN (infoOf Tryd.type155) Tryd.underlying155 ⟨rfl, rfl⟩ (g := fun _ => by kernel_rfl) (f := fun ks h => by cases h; exact ⟨by kernel_rfl, 8, by kernel_rfl, by decide⟩)
def y162 : TyI := ⟨1, 8, false, [.val (.pointer none)], .ptr 220, none⟩
theorem ok162 : TyOK Tryd.prog 162 y162 := tyN (infoOf Tryd.type162) Tryd.underlying162 rfl
def y175 : TyI := ⟨1, 8, false, [.val (.map none)], .other, none⟩
theorem ok175 : TyOK Tryd.prog 175 y175 := tyN (infoOf Tryd.type175) Tryd.underlying175 trivial
def y177 : TyI := ⟨1, 8, true, [.val (.pointer none)], .st [(0, 70)], none⟩
theorem ok177 : TyOK Tryd.prog 177 y177 := tyN (infoOf Tryd.type177) Tryd.underlying177 (descSt (by kernel_rfl))
def y178 : TyI := ⟨1, 8, true, [.val (.pointer none)], .st [(0, 70)], none⟩
theorem ok178 : TyOK Tryd.prog 178 y178 := tyN (infoOf Tryd.type178) Tryd.underlying178 (descSt (by kernel_rfl))
def y183 : TyI := ⟨4, 24, true, [.litb false, .lit .i64 0, .litb false, .litb false], .st [(0, 34), (2, 4), (3, 4)], some (List.replicate 1 (none) ++ List.replicate 1 (some .i64) ++ List.replicate 1 (none) ++ List.replicate 1 (none))⟩
theorem ok183 : TyOK Tryd.prog 183 y183 := tyN (infoOf Tryd.type183) Tryd.underlying183 (descSt (by kernel_rfl)) (g := fun _ => by kernel_rfl) (f := fun ks h => by cases h; exact ⟨by kernel_rfl, 8, by kernel_rfl, by decide⟩)
def y184 : TyI := ⟨4, 24, true, [.litb false, .lit .i64 0, .litb false, .litb false], .st [(0, 34), (2, 4), (3, 4)], some (List.replicate 1 (none) ++ List.replicate 1 (some .i64) ++ List.replicate 1 (none) ++ List.replicate 1 (none))⟩
theorem ok184 : TyOK Tryd.prog 184 y184 := tyN (infoOf Tryd.type184) Tryd.underlying184 (descSt (by kernel_rfl)) (g := fun _ => by kernel_rfl) (f := fun ks h => by cases h; exact ⟨by kernel_rfl, 8, by kernel_rfl, by decide⟩)
def y189 : TyI := ⟨25, 200, true, [.ints .i64 25 (List.replicate 25 0)], .arr 25 3, some (List.replicate 25 (some .i64))⟩
theorem ok189 : TyOK Tryd.prog 189 y189 := tyN (infoOf Tryd.type189) Tryd.underlying189 ⟨rfl, rfl⟩ (g := fun _ => by kernel_rfl) (f := fun ks h => by cases h; exact ⟨by kernel_rfl, 8, by kernel_rfl, by decide⟩)
def y196 : TyI := ⟨2, 32, true, [.str ⟨#[]⟩, .str ⟨#[]⟩], .st [(0, 9), (1, 9)], none⟩
theorem ok196 : TyOK Tryd.prog 196 y196 := tyN (infoOf Tryd.type196) Tryd.underlying196 (descSt (by kernel_rfl))
def y197 : TyI := ⟨50, 800, true, [.str ⟨#[]⟩, .str ⟨#[]⟩, .str ⟨#[]⟩, .str ⟨#[]⟩, .str ⟨#[]⟩, .str ⟨#[]⟩, .str ⟨#[]⟩, .str ⟨#[]⟩, .str ⟨#[]⟩, .str ⟨#[]⟩, .str ⟨#[]⟩, .str ⟨#[]⟩, .str ⟨#[]⟩, .str ⟨#[]⟩, .str ⟨#[]⟩, .str ⟨#[]⟩, .str ⟨#[]⟩, .str ⟨#[]⟩, .str ⟨#[]⟩, .str ⟨#[]⟩, .str ⟨#[]⟩, .str ⟨#[]⟩, .str ⟨#[]⟩, .str ⟨#[]⟩, .str ⟨#[]⟩, .str ⟨#[]⟩, .str ⟨#[]⟩, .str ⟨#[]⟩, .str ⟨#[]⟩, .str ⟨#[]⟩, .str ⟨#[]⟩, .str ⟨#[]⟩, .str ⟨#[]⟩, .str ⟨#[]⟩, .str ⟨#[]⟩, .str ⟨#[]⟩, .str ⟨#[]⟩, .str ⟨#[]⟩, .str ⟨#[]⟩, .str ⟨#[]⟩, .str ⟨#[]⟩, .str ⟨#[]⟩, .str ⟨#[]⟩, .str ⟨#[]⟩, .str ⟨#[]⟩, .str ⟨#[]⟩, .str ⟨#[]⟩, .str ⟨#[]⟩, .str ⟨#[]⟩, .str ⟨#[]⟩], .arr 25 196, none⟩
theorem ok197 : TyOK Tryd.prog 197 y197 := tyN (infoOf Tryd.type197) Tryd.underlying197 ⟨rfl, rfl⟩
def y199 : TyI := ⟨1, 8, false, [.lit .u64 0], .int .u64, none⟩
theorem ok199 : TyOK Tryd.prog 199 y199 := tyN (infoOf Tryd.type199) Tryd.underlying199 rfl
def y200 : TyI := ⟨1, 24, false, [.val (.slice none 0 0)], .sl 204, none⟩
theorem ok200 : TyOK Tryd.prog 200 y200 := tyN (infoOf Tryd.type200) Tryd.underlying200 rfl
def y203 : TyI := ⟨5, 40, true, [.lit .i64 0, .lit .i64 0, .lit .i64 0, .lit .i64 0, .lit .i64 0], .st [(0, 2), (1, 2), (2, 2), (3, 3), (4, 3)], some (List.replicate 1 (some .i64) ++ List.replicate 1 (some .i64) ++ List.replicate 1 (some .i64) ++ List.replicate 1 (some .i64) ++ List.replicate 1 (some .i64))⟩
theorem ok203 : TyOK Tryd.prog 203 y203 := tyN (infoOf Tryd.type203) Tryd.underlying203 (descSt (by kernel_rfl)) (g := fun _ => by kernel_rfl) (f := fun ks h => by cases h; exact ⟨by kernel_rfl, 8, by kernel_rfl, by decide⟩)
def y204 : TyI := ⟨5, 40, true, [.lit .i64 0, .lit .i64 0, .lit .i64 0, .lit .i64 0, .lit .i64 0], .st [(0, 2), (1, 2), (2, 2), (3, 3), (4, 3)], some (List.replicate 1 (some .i64) ++ List.replicate 1 (some .i64) ++ List.replicate 1 (some .i64) ++ List.replicate 1 (some .i64) ++ List.replicate 1 (some .i64))⟩
theorem ok204 : TyOK Tryd.prog 204 y204 := tyN (infoOf Tryd.type204) Tryd.underlying204 (descSt (by kernel_rfl)) (g := fun _ => by kernel_rfl) (f := fun ks h => by cases h; exact ⟨by kernel_rfl, 8, by kernel_rfl, by decide⟩)
def y210 : TyI := ⟨1, 8, false, [.val (.pointer none)], .ptr 242, none⟩
theorem ok210 : TyOK Tryd.prog 210 y210 := tyN (infoOf Tryd.type210) Tryd.underlying210 rfl
def y215 : TyI := ⟨2, 8, true, [.lit .u32 0, .lit .u32 0], .arr 2 23, some (List.replicate 2 (some .u32))⟩
theorem ok215 : TyOK Tryd.prog 215 y215 := tyN (infoOf Tryd.type215) Tryd.underlying215 ⟨rfl, rfl⟩ (g := fun _ => by kernel_rfl) (f := fun ks h => by cases h; exact ⟨by kernel_rfl, 8, by kernel_rfl, by decide⟩)
def y219 : TyI := ⟨10, 64, true, [.lit .u32 0, .lit .u32 0, .lit .u32 0, .lit .u32 0, .lit .u32 0, .lit .u32 0, .lit .u32 0, .lit .u32 0, .lit .i64 0, .val (.slice none 0 0)], .st [(0, 106), (8, 2), (9, 102)], none⟩
theorem ok219 : TyOK Tryd.prog 219 y219 := tyN (infoOf Tryd.type219) Tryd.underlying219 (descSt (by kernel_rfl))
def y220 : TyI := ⟨10, 64, true, [.lit .u32 0, .lit .u32 0, .lit .u32 0, .lit .u32 0, .lit .u32 0, .lit .u32 0, .lit .u32 0, .lit .u32 0, .lit .i64 0, .val (.slice none 0 0)], .st [(0, 106), (8, 2), (9, 102)], none⟩
theorem ok220 : TyOK Tryd.prog 220 y220 := tyN (infoOf Tryd.type220) Tryd.underlying220 (descSt (by kernel_rfl))
def y221 : TyI := ⟨1, 8, false, [.lit .u64 0], .int .u64, none⟩
theorem ok221 : TyOK Tryd.prog 221 y221 := tyN (infoOf Tryd.type221) Tryd.underlying221 rfl
def y222 : TyI := ⟨1, 16, false, [.val .nilIface], .other, none⟩
theorem ok222 : TyOK Tryd.prog 222 y222 := tyN (infoOf Tryd.type222) Tryd.underlying222 trivial
def y223 : TyI := ⟨1, 16, false, [.val .nilIface], .other, none⟩
theorem ok223 : TyOK Tryd.prog 223 y223 := tyN (infoOf Tryd.type223) Tryd.underlying223 trivial
def y230 : TyI := ⟨1, 24, false, [.val (.slice none 0 0)], .sl 223, none⟩
theorem ok230 : TyOK Tryd.prog 230 y230 := tyN (infoOf Tryd.type230) Tryd.underlying230 rfl
def y240 : TyI := ⟨1, 24, false, [.val (.slice none 0 0)], .sl 102, none⟩
theorem ok240 : TyOK Tryd.prog 240 y240 := tyN (infoOf Tryd.type240) Tryd.underlying240 rfl
def y241 : TyI := ⟨3, 40, true, [.val (.slice none 0 0), .lit .i64 0, .lit .i64 0], .st [(0, 240), (1, 3), (2, 2)], none⟩
theorem ok241 : TyOK Tryd.prog 241 y241 := tyN (infoOf Tryd.type241) Tryd.underlying241 (descSt (by kernel_rfl))
def y242 : TyI := ⟨3, 40, true, [.val (.slice none 0 0), .lit .i64 0, .lit .i64 0], .st [(0, 240), (1, 3), (2, 2)], none⟩
theorem ok242 : TyOK Tryd.prog 242 y242 := tyN (infoOf Tryd.type242) Tryd.underlying242 (descSt (by kernel_rfl))
def y243 : TyI := ⟨1, 24, false, [.val (.slice none 0 0)], .sl 250, none⟩
theorem ok243 : TyOK Tryd.prog 243 y243 := tyN (infoOf Tryd.type243) Tryd.underlying243 rfl
def y244 : TyI := ⟨3, 40, true, [.val (.pointer none), .val (.slice none 0 0), .lit .i64 0], .st [(0, 210), (1, 243), (2, 3)], none⟩
theorem ok244 : TyOK Tryd.prog 244 y244 := tyN (infoOf Tryd.type244) Tryd.underlying244 (descSt (by kernel_rfl))
def y245 : TyI := ⟨3, 40, true, [.val (.pointer none), .val (.slice none 0 0), .lit .i64 0], .st [(0, 210), (1, 243), (2, 3)], none⟩
theorem ok245 : TyOK Tryd.prog 245 y245 := tyN (infoOf Tryd.type245) Tryd.underlying245 (descSt (by kernel_rfl))
def y247 : TyI := ⟨2, 16, true, [.litb false, .lit .i64 0], .st [(0, 4), (1, 3)], some (List.replicate 1 (none) ++ List.replicate 1 (some .i64))⟩
theorem ok247 : TyOK Tryd.prog 247 y247 := tyN (infoOf Tryd.type247) Tryd.underlying247 (descSt (by kernel_rfl)) (g := fun _ => by kernel_rfl) (f := fun ks h => by cases h; exact ⟨by kernel_rfl, 8, by kernel_rfl, by decide⟩)
def y249 : TyI := ⟨5, 40, true, [.lit .i64 0, .lit .i64 0, .lit .i64 0, .lit .i64 0, .litb false], .st [(0, 3), (1, 3), (2, 3), (3, 3), (4, 4)], some (List.replicate 1 (some .i64) ++ List.replicate 1 (some .i64) ++ List.replicate 1 (some .i64) ++ List.replicate 1 (some .i64) ++ List.replicate 1 (none))⟩
theorem ok249 : TyOK Tryd.prog 249 y249 := tyN (infoOf Tryd.type249) Tryd.underlying249 (descSt (by kernel_rfl)) (g := fun _ => by kernel_rfl) (f := fun ks h => by cases h; exact ⟨by kernel_rfl, 8, by kernel_rfl, by decide⟩)
def y250 : TyI := ⟨5, 40, true, [.lit .i64 0, .lit .i64 0, .lit .i64 0, .lit .i64 0, .litb false], .st [(0, 3), (1, 3), (2, 3), (3, 3), (4, 4)], some (List.replicate 1 (some .i64) ++ List.replicate 1 (some .i64) ++ List.replicate 1 (some .i64) ++ List.replicate 1 (some .i64) ++ List.replicate 1 (none))⟩
theorem ok250 : TyOK Tryd.prog 250 y250 := tyN (infoOf Tryd.type250) Tryd.underlying250 (descSt (by kernel_rfl)) (g := fun _ => by kernel_rfl) (f := fun ks h => by cases h; exact ⟨by kernel_rfl, 8, by kernel_rfl, by decide⟩)
def y252 : TyI := ⟨2, 32, true, [.lit .u32 0, .val (.slice none 0 0)], .st [(0, 23), (1, 102)], none⟩
theorem ok252 : TyOK Tryd.prog 252 y252 := tyN (infoOf Tryd.type252) Tryd.underlying252 (descSt (by kernel_rfl))
def y253 : TyI := ⟨2, 32, true, [.lit .u32 0, .val (.slice none 0 0)], .st [(0, 23), (1, 102)], none⟩
theorem ok253 : TyOK Tryd.prog 253 y253 := tyN (infoOf Tryd.type253) Tryd.underlying253 (descSt (by kernel_rfl))
def y254 : TyI := ⟨2, 16, true, [.lit .i64 0, .lit .u32 0], .st [(0, 101), (1, 23)], some (List.replicate 1 (some .i64) ++ List.replicate 1 (some .u32))⟩
theorem ok254 : TyOK Tryd.prog 254 y254 := tyN (infoOf Tryd.type254) Tryd.underlying254 (descSt (by kernel_rfl)) (g := fun _ => by kernel_rfl) (f := fun ks h => by cases h; exact ⟨by kernel_rfl, 8, by kernel_rfl, by decide⟩)
def y255 : TyI := ⟨2, 16, true, [.lit .i64 0, .lit .u32 0], .st [(0, 101), (1, 23)], some (List.replicate 1 (some .i64) ++ List.replicate 1 (some .u32))⟩
theorem ok255 : TyOK Tryd.prog 255 y255 := tyN (infoOf Tryd.type255) Tryd.underlying255 (descSt (by kernel_rfl)) (g := fun _ => by kernel_rfl) (f := fun ks h => by cases h; exact ⟨by kernel_rfl, 8, by kernel_rfl, by decide⟩)
def y257 : TyI := ⟨16, 64, true, [.ints .u32 16 (List.replicate 16 0)], .arr 16 23, some (List.replicate 16 (some .u32))⟩
theorem ok257 : TyOK Tryd.prog 257 y257 := tyN (infoOf Tryd.type257) Tryd.underlying257 ⟨rfl, rfl⟩ (g := fun _ => by kernel_rfl) (f := fun ks h => by cases h; exact ⟨by kernel_rfl, 8, by kernel_rfl, by decide⟩)
def y262 : TyI := ⟨64, 256, true, [.ints .u32 64 (List.replicate 64 0)], .arr 64 23, some (List.replicate 64 (some .u32))⟩
theorem ok262 : TyOK Tryd.prog 262 y262 := tyN (infoOf Tryd.type262) Tryd.underlying262 ⟨rfl, rfl⟩ (g := fun _ => by kernel_rfl) (f := fun ks h => by cases h; exact ⟨by kernel_rfl, 8, by kernel_rfl, by decide⟩)
def y267 : TyI := ⟨2, 8, true, [.litb false, .lit .u32 0], .st [(0, 4), (1, 23)], some (List.replicate 1 (none) ++ List.replicate 1 (some .u32))⟩
theorem ok267 : TyOK Tryd.prog 267 y267 := tyN (infoOf Tryd.type267) Tryd.underlying267 (descSt (by kernel_rfl)) (g := fun _ => by kernel_rfl) (f := fun ks h => by cases h; exact ⟨by kernel_rfl, 8, by kernel_rfl, by decide⟩)
def y268 : TyI := ⟨1, 24, false, [.val (.slice none 0 0)], .sl 267, none⟩
theorem ok268 : TyOK Tryd.prog 268 y268 := tyN (infoOf Tryd.type268) Tryd.underlying268 rfl
def y270 : TyI := ⟨4, 40, true, [.val (.pointer none), .val (.pointer none), .val (.pointer none), .str ⟨#[]⟩], .st [(0, 17), (1, 17), (2, 17), (3, 9)], none⟩
theorem ok270 : TyOK Tryd.prog 270 y270 := tyN (infoOf Tryd.type270) Tryd.underlying270 (descSt (by kernel_rfl))
def y271 : TyI := ⟨4, 40, true, [.val (.pointer none), .val (.pointer none), .val (.pointer none), .str ⟨#[]⟩], .st [(0, 17), (1, 17), (2, 17), (3, 9)], none⟩
theorem ok271 : TyOK Tryd.prog 271 y271 := tyN (infoOf Tryd.type271) Tryd.underlying271 (descSt (by kernel_rfl))
def y275 : TyI := ⟨1, 1, false, [.lit .u8 0], .int .u8, none⟩
theorem ok275 : TyOK Tryd.prog 275 y275 := tyN (infoOf Tryd.type275) Tryd.underlying275 rfl
def y276 : TyI := ⟨1, 1, false, [.lit .u8 0], .int .u8, none⟩
theorem ok276 : TyOK Tryd.prog 276 y276 := tyN (infoOf Tryd.type276) Tryd.underlying276 rfl
def y278 : TyI := ⟨1, 8, false, [.val (.pointer none)], .ptr 5, none⟩
theorem ok278 : TyOK Tryd.prog 278 y278 := tyN (infoOf Tryd.type278) Tryd.underlying278 rfl
def y279 : TyI := ⟨1, 4, false, [.lit .i32 0], .int .i32, none⟩
theorem ok279 : TyOK Tryd.prog 279 y279 := tyN (infoOf Tryd.type279) Tryd.underlying279 rfl
def y280 : TyI := ⟨1, 4, false, [.lit .i32 0], .int .i32, none⟩
theorem ok280 : TyOK Tryd.prog 280 y280 := tyN (infoOf Tryd.type280) Tryd.underlying280 rfl
def y281 : TyI := ⟨11, 48, true, [.lit .u64 0, .lit .u64 0, .lit .u32 0, .lit .u8 0, .lit .u8 0, .lit .u8 0, .lit .u8 0, .val .nilFunc, .val (.pointer none), .lit .i32 0, .lit .i32 0], .st [(0, 12), (1, 12), (2, 23), (3, 275), (4, 5), (5, 5), (6, 276), (7, 277), (8, 278), (9, 279), (10, 280)], none⟩
theorem ok281 : TyOK Tryd.prog 281 y281 := tyN (infoOf Tryd.type281) Tryd.underlying281 (descSt (by kernel_rfl))
def y282 : TyI := ⟨11, 48, true, [.lit .u64 0, .lit .u64 0, .lit .u32 0, .lit .u8 0, .lit .u8 0, .lit .u8 0, .lit .u8 0, .val .nilFunc, .val (.pointer none), .lit .i32 0, .lit .i32 0], .st [(0, 12), (1, 12), (2, 23), (3, 275), (4, 5), (5, 5), (6, 276), (7, 277), (8, 278), (9, 279), (10, 280)], none⟩
theorem ok282 : TyOK Tryd.prog 282 y282 := tyN (infoOf Tryd.type282) Tryd.underlying282 (descSt (by kernel_rfl))
def tab : Tab := [(2, y2), (3, y3), (4, y4), (5, y5), (6, y6), (7, y7), (8, y8), (9, y9), (10, y10), (11, y11), (12, y12), (13, y13), (14, y14), (15, y15), (16, y16), (17, y17), (18, y18), (19, y19), (20, y20), (21, y21), (22, y22), (23, y23), (24, y24), (25, y25), (26, y26), (27, y27), (28, y28), (29, y29), (33, y33), (34, y34), (35, y35), (36, y36), (39, y39), (40, y40), (41, y41), (42, y42), (47, y47), (48, y48), (49, y49), (50, y50), (51, y51), (57, y57), (58, y58), (59, y59), (69, y69), (70, y70), (72, y72), (74, y74), (75, y75), (76, y76), (77, y77), (79, y79), (82, y82), (83, y83), (85, y85), (97, y97), (99, y99), (101, y101), (102, y102), (103, y103), (104, y104), (106, y106), (111, y111), (114, y114), (115, y115), (117, y117), (119, y119), (120, y120), (125, y125), (126, y126), (127, y127), (129, y129), (136, y136), (145, y145), (146, y146), (147, y147), (150, y150), (151, y151), (154, y154), (155, y155), (162, y162), (175, y175), (177, y177), (178, y178), (183, y183), (184, y184), (189, y189), (196, y196), (197, y197), (199, y199), (200, y200), (203, y203), (204, y204), (210, y210), (215, y215), (219, y219), (220, y220), (221, y221), (222, y222), (223, y223), (230, y230), (240, y240), (241, y241), (242, y242), (243, y243), (244, y244), (245, y245), (247, y247), (249, y249), (250, y250), (252, y252), (253, y253), (254, y254), (255, y255), (257, y257), (262, y262), (267, y267), (268, y268), (270, y270), (271, y271), (275, y275), (276, y276), (278, y278), (279, y279), (280, y280), (281, y281), (282, y282)]
def AllOK : Tab → Prop
  | [] => True
  | p :: l => TyOK Tryd.prog p.1 p.2 ∧ AllOK l
theorem all_ok : ∀ (l : Tab), AllOK l → ∀ t i, List.lookup t l = some i → TyOK Tryd.prog t i
  | [], _, t, i, h => by simp at h
  | (d, v) :: l, hp, t, i, h => by
    rw [lookup_cons] at h
    by_cases hd : t = d
    · simp [hd] at h; subst h hd; exact hp.1
    · simp [hd] at h; exact all_ok l hp.2 t i h
theorem tab_ok : TabOK Tryd.prog tab := all_ok tab ⟨ok2, ok3, ok4, ok5, ok6, ok7, ok8, ok9, ok10, ok11, ok12, ok13, ok14, ok15, ok16, ok17, ok18, ok19, ok20, ok21, ok22, ok23, ok24, ok25, ok26, ok27, ok28, ok29, ok33, ok34, ok35, ok36, ok39, ok40, ok41, ok42, ok47, ok48, ok49, ok50, ok51, ok57, ok58, ok59, ok69, ok70, ok72, ok74, ok75, ok76, ok77, ok79, ok82, ok83, ok85, ok97, ok99, ok101, ok102, ok103, ok104, ok106, ok111, ok114, ok115, ok117, ok119, ok120, ok125, ok126, ok127, ok129, ok136, ok145, ok146, ok147, ok150, ok151, ok154, ok155, ok162, ok175, ok177, ok178, ok183, ok184, ok189, ok196, ok197, ok199, ok200, ok203, ok204, ok210, ok215, ok219, ok220, ok221, ok222, ok223, ok230, ok240, ok241, ok242, ok243, ok244, ok245, ok247, ok249, ok250, ok252, ok253, ok254, ok255, ok257, ok262, ok267, ok268, ok270, ok271, ok275, ok276, ok278, ok279, ok280, ok281, ok282, trivial⟩
noncomputable def fnL : List (Nat × Func) := [(2, Tryd.f2), (3, Tryd.f3), (4, Tryd.f4), (5, Tryd.f5), (6, Tryd.f6), (7, Tryd.f7), (8, Tryd.f8), (9, Tryd.f9), (10, Tryd.f10), (11, Tryd.f11), (12, Tryd.f12), (13, Tryd.f13), (14, Tryd.f14), (15, Tryd.f15), (16, Tryd.f16), (17, Tryd.f17), (18, Tryd.f18), (19, Tryd.f19), (20, Tryd.f20), (21, Tryd.f21), (22, Tryd.f22), (23, Tryd.f23), (24, Tryd.f24), (25, Tryd.f25), (26, Tryd.f26), (27, Tryd.f27), (28, Tryd.f28), (29, Tryd.f29), (30, Tryd.f30), (31, Tryd.f31), (32, Tryd.f32), (33, Tryd.f33), (34, Tryd.f34), (35, Tryd.f35), (36, Tryd.f36), (37, Tryd.f37), (38, Tryd.f38), (39, Tryd.f39), (40, Tryd.f40), (41, Tryd.f41), (42, Tryd.f42), (43, Tryd.f43), (44, Tryd.f44), (45, Tryd.f45), (46, Tryd.f46), (47, Tryd.f47), (48, Tryd.f48), (49, Tryd.f49), (50, Tryd.f50), (51, Tryd.f51), (52, Tryd.f52), (53, Tryd.f53), (54, Tryd.f54), (55, Tryd.f55), (56, Tryd.f56), (57, Tryd.f57), (58, Tryd.f58), (59, Tryd.f59), (60, Tryd.f60), (61, Tryd.f61), (62, Tryd.f62), (63, Tryd.f63), (64, Tryd.f64), (65, Tryd.f65), (66, Tryd.f66), (67, Tryd.f67), (68, Tryd.f68), (69, Tryd.f69), (70, Tryd.f70), (71, Tryd.f71), (72, Tryd.f72), (73, Tryd.f73), (74, Tryd.f74), (75, Tryd.f75), (76, Tryd.f76), (77, Tryd.f77), (78, Tryd.f78), (79, Tryd.f79), (80, Tryd.f80), (81, Tryd.f81), (82, Tryd.f82), (83, Tryd.f83), (84, Tryd.f84), (85, Tryd.f85), (86, Tryd.f86), (87, Tryd.f87), (88, Tryd.f88), (89, Tryd.f89), (90, Tryd.f90), (91, Tryd.f91), (92, Tryd.f92), (93, Tryd.f93), (94, Tryd.f94), (95, Tryd.f95), (96, Tryd.f96), (97, Tryd.f97), (98, Tryd.f98), (99, Tryd.f99), (100, Tryd.f100), (101, Tryd.f101), (102, Tryd.f102), (103, Tryd.f103), (104, Tryd.f104), (105, Tryd.f105), (106, Tryd.f106), (107, Tryd.f107), (108, Tryd.f108), (109, Tryd.f109), (110, Tryd.f110), (111, Tryd.f111), (112, Tryd.f112), (113, Tryd.f113), (114, Tryd.f114), (115, Tryd.f115), (116, Tryd.f116), (117, Tryd.f117), (118, Tryd.f118), (119, Tryd.f119), (120, Tryd.f120), (121, Tryd.f121), (122, Tryd.f122), (123, Tryd.f123), (124, Tryd.f124), (125, Tryd.f125), (126, Tryd.f126), (127, Tryd.f127), (128, Tryd.f128), (129, Tryd.f129), (130, Tryd.f130), (131, Tryd.f131), (132, Tryd.f132), (133, Tryd.f133), (134, Tryd.f134), (135, Tryd.f135), (136, Tryd.f136), (137, Tryd.f137), (138, Tryd.f138), (139, Tryd.f139), (140, Tryd.f140), (141, Tryd.f141), (142, Tryd.f142), (143, Tryd.f143), (144, Tryd.f144), (145, Tryd.f145), (146, Tryd.f146), (147, Tryd.f147), (148, Tryd.f148), (149, Tryd.f149), (150, Tryd.f150), (151, Tryd.f151), (152, Tryd.f152), (153, Tryd.f153), (154, Tryd.f154), (155, Tryd.f155), (175, Tryd.f175), (176, Tryd.f176), (183, Tryd.f183)]
noncomputable def fns (f : FuncId) : Option Func := List.lookup f fnL
def FnOK (f : Nat) (fn : Func) : Prop := Tryd.prog.funcs[f]? = some fn ∧ ∀ args w, (callFunc f args).run Tryd.prog w = .ok (.enter f args) w
def AllFn : List (Nat × Func) → Prop
  | [] => True
  | p :: l => FnOK p.1 p.2 ∧ AllFn l
theorem allFn : ∀ (l : List (Nat × Func)), AllFn l → ∀ f fn, List.lookup f l = some fn → FnOK f fn
  | [], _, t, i, h => by simp at h
  | (d, v) :: l, hp, t, i, h => by
    rw [lookup_cons] at h
    by_cases hd : t = d
    · simp [hd] at h; subst h hd; exact hp.1
    · simp [hd] at h; exact allFn l hp.2 t i h
theorem fnOK {f : Nat} {fn : Func} (hf : Tryd.prog.funcs[f]? = some fn) (hn : (fn.name == "runtime.NumGoroutine") = false) (hb : fn.body.isNone = false) : FnOK f fn := ⟨hf, callFunc_ok hf hn hb⟩
theorem fns_ok : FnsOK Tryd.prog fns := allFn fnL ⟨fnOK Tryd.func2 (by kernel_rfl) (by kernel_rfl), fnOK Tryd.func3 (by kernel_rfl) (by kernel_rfl), fnOK Tryd.func4 (by kernel_rfl) (by kernel_rfl), fnOK Tryd.func5 (by kernel_rfl) (by kernel_rfl), fnOK Tryd.func6 (by kernel_rfl) (by kernel_rfl), fnOK Tryd.func7 (by kernel_rfl) (by kernel_rfl), fnOK Tryd.func8 (by kernel_rfl) (by kernel_rfl), fnOK Tryd.func9 (by kernel_rfl) (by kernel_rfl), fnOK Tryd.func10 (by kernel_rfl) (by kernel_rfl), fnOK Tryd.func11 (by kernel_rfl) (by kernel_rfl), fnOK Tryd.func12 (by kernel_rfl) (by kernel_rfl), fnOK Tryd.func13 (by kernel_rfl) (by kernel_rfl), fnOK Tryd.func14 (by kernel_rfl) (by kernel_rfl), fnOK Tryd.func15 (by kernel_rfl) (by kernel_rfl), fnOK Tryd.func16 (by kernel_rfl) (by kernel_rfl), fnOK Tryd.func17 (by kernel_rfl) (by kernel_rfl), fnOK Tryd.func18 (by kernel_rfl) (by kernel_rfl), fnOK Tryd.func19 (by kernel_rfl) (by kernel_rfl), fnOK Tryd.func20 (by kernel_rfl) (by kernel_rfl), fnOK Tryd.func21 (by kernel_rfl) (by kernel_rfl), fnOK Tryd.func22 (by kernel_rfl) (by kernel_rfl), fnOK Tryd.func23 (by kernel_rfl) (by kernel_rfl), fnOK Tryd.func24 (by kernel_rfl) (by kernel_rfl), fnOK Tryd.func25 (by kernel_rfl) (by kernel_rfl), fnOK Tryd.func26 (by kernel_rfl) (by kernel_rfl), fnOK Tryd.func27 (by kernel_rfl) (by kernel_rfl), fnOK Tryd.func28 (by kernel_rfl) (by kernel_rfl), fnOK Tryd.func29 (by kernel_rfl) (by kernel_rfl), fnOK Tryd.func30 (by kernel_rfl) (by kernel_rfl), fnOK Tryd.func31 (by kernel_rfl) (by kernel_rfl), fnOK Tryd.func32 (by kernel_rfl) (by kernel_rfl), fnOK Tryd.func33 (by kernel_rfl) (by kernel_rfl), fnOK Tryd.func34 (by kernel_rfl) (by kernel_rfl), fnOK Tryd.func35 (by kernel_rfl) (by kernel_rfl), fnOK Tryd.func36 (by kernel_rfl) (by kernel_rfl), fnOK Tryd.func37 (by kernel_rfl) (by kernel_rfl), fnOK Tryd.func38 (by kernel_rfl) (by kernel_rfl), fnOK Tryd.func39 (by kernel_rfl) (by kernel_rfl), fnOK Tryd.func40 (by kernel_rfl) (by kernel_rfl), fnOK Tryd.func41 (by kernel_rfl) (by kernel_rfl), fnOK Tryd.func42 (by kernel_rfl) (by kernel_rfl), fnOK Tryd.func43 (by kernel_rfl) (by kernel_rfl), fnOK Tryd.func44 (by kernel_rfl) (by kernel_rfl), fnOK Tryd.func45 (by kernel_rfl) (by kernel_rfl), fnOK Tryd.func46 (by kernel_rfl) (by kernel_rfl), fnOK Tryd.func47 (by kernel_rfl) (by kernel_rfl), fnOK Tryd.func48 (by kernel_rfl) (by kernel_rfl), fnOK Tryd.func49 (by kernel_rfl) (by kernel_rfl), fnOK Tryd.func50 (by kernel_rfl) (by kernel_rfl), fnOK Tryd.func51 (by kernel_rfl) (by kernel_rfl), fnOK Tryd.func52 (by kernel_rfl) (by kernel_rfl), fnOK Tryd.func53 (by kernel_rfl) (by kernel_rfl), fnOK Tryd.func54 (by kernel_rfl) (by kernel_rfl), fnOK Tryd.func55 (by kernel_rfl) (by kernel_rfl), fnOK Tryd.func56 (by kernel_rfl) (by kernel_rfl), fnOK Tryd.func57 (by kernel_rfl) (by kernel_rfl), fnOK Tryd.func58 (by kernel_rfl) (by kernel_rfl), fnOK Tryd.func59 (by kernel_rfl) (by kernel_rfl), fnOK Tryd.func60 (by kernel_rfl) (by kernel_rfl), fnOK Tryd.func61 (by kernel_rfl) (by kernel_rfl), fnOK Tryd.func62 (by kernel_rfl) (by kernel_rfl), fnOK Tryd.func63 (by kernel_rfl) (by kernel_rfl), fnOK Tryd.func64 (by kernel_rfl) (by kernel_rfl), fnOK Tryd.func65 (by kernel_rfl) (by kernel_rfl), fnOK Tryd.func66 (by kernel_rfl) (by kernel_rfl), fnOK Tryd.func67 (by kernel_rfl) (by kernel_rfl), fnOK Tryd.func68 (by kernel_rfl) (by kernel_rfl), fnOK Tryd.func69 (by kernel_rfl) (by kernel_rfl), fnOK Tryd.func70 (by kernel_rfl) (by kernel_rfl), fnOK Tryd.func71 (by kernel_rfl) (by kernel_rfl), fnOK Tryd.func72 (by kernel_rfl) (by kernel_rfl), fnOK Tryd.func73 (by kernel_rfl) (by kernel_rfl), fnOK Tryd.func74 (by kernel_rfl) (by kernel_rfl), fnOK Tryd.func75 (by kernel_rfl) (by kernel_rfl), fnOK Tryd.func76 (by kernel_rfl) (by kernel_rfl), fnOK Tryd.func77 (by kernel_rfl) (by kernel_rfl), fnOK Tryd.func78 (by kernel_rfl) (by kernel_rfl), fnOK Tryd.func79 (by kernel_rfl) (by kernel_rfl), fnOK Tryd.func80 (by kernel_rfl) (by kernel_rfl), fnOK Tryd.func81 (by kernel_rfl) (by kernel_rfl), fnOK Tryd.func82 (by kernel_rfl) (by kernel_rfl), fnOK Tryd.func83 (by kernel_rfl) (by kernel_rfl), fnOK Tryd.func84 (by kernel_rfl) (by kernel_rfl), fnOK Tryd.func85 (by kernel_rfl) (by kernel_rfl), fnOK Tryd.func86 (by kernel_rfl) (by kernel_rfl), fnOK Tryd.func87 (by kernel_rfl) (by kernel_rfl), fnOK Tryd.func88 (by kernel_rfl) (by kernel_rfl), fnOK Tryd.func89 (by kernel_rfl) (by kernel_rfl), fnOK Tryd.func90 (by kernel_rfl) (by kernel_rfl), fnOK Tryd.func91 (by kernel_rfl) (by kernel_rfl), fnOK Tryd.func92 (by kernel_rfl) (by kernel_rfl), fnOK Tryd.func93 (by kernel_rfl) (by kernel_rfl), fnOK Tryd.func94 (by kernel_rfl) (by kernel_rfl), fnOK Tryd.func95 (by kernel_rfl) (by kernel_rfl), fnOK Tryd.func96 (by kernel_rfl) (by kernel_rfl), fnOK Tryd.func97 (by kernel_rfl) (by kernel_rfl), fnOK Tryd.func98 (by kernel_rfl) (by kernel_rfl), fnOK Tryd.func99 (by kernel_rfl) (by kernel_rfl), fnOK Tryd.func100 (by kernel_rfl) (by kernel_rfl), fnOK Tryd.func101 (by kernel_rfl) (by kernel_rfl), fnOK Tryd.func102 (by kernel_rfl) (by kernel_rfl), fnOK Tryd.func103 (by kernel_rfl) (by kernel_rfl), fnOK Tryd.func104 (by kernel_rfl) (by kernel_rfl), fnOK Tryd.func105 (by kernel_rfl) (by kernel_rfl), fnOK Tryd.func106 (by kernel_rfl) (by kernel_rfl), fnOK Tryd.func107 (by kernel_rfl) (by kernel_rfl), fnOK Tryd.func108 (by kernel_rfl) (by kernel_rfl), fnOK Tryd.func109 (by kernel_rfl) (by kernel_rfl), fnOK Tryd.func110 (by kernel_rfl) (by kernel_rfl), fnOK Tryd.func111 (by kernel_rfl) (by kernel_rfl), fnOK Tryd.func112 (by kernel_rfl) (by kernel_rfl), fnOK Tryd.func113 (by kernel_rfl) (by kernel_rfl), fnOK Tryd.func114 (by kernel_rfl) (by kernel_rfl), fnOK Tryd.func115 (by kernel_rfl) (by kernel_rfl), fnOK Tryd.func116 (by kernel_rfl) (by kernel_rfl), fnOK Tryd.func117 (by kernel_rfl) (by kernel_rfl), fnOK Tryd.func118 (by kernel_rfl) (by kernel_rfl), fnOK Tryd.func119 (by kernel_rfl) (by kernel_rfl), fnOK Tryd.func120 (by kernel_rfl) (by kernel_rfl), fnOK Tryd.func121 (by kernel_rfl) (by kernel_rfl), fnOK Tryd.func122 (by kernel_rfl) (by kernel_rfl), fnOK Tryd.func123 (by kernel_rfl) (by kernel_rfl), fnOK Tryd.func124 (by kernel_rfl) (by kernel_rfl), fnOK Tryd.func125 (by kernel_rfl) (by kernel_rfl), fnOK Tryd.func126 (by kernel_rfl) (by kernel_rfl), fnOK Tryd.func127 (by kernel_rfl) (by kernel_rfl), fnOK Tryd.func128 (by kernel_rfl) (by kernel_rfl), fnOK Tryd.func129 (by kernel_rfl) (by kernel_rfl), fnOK Tryd.func130 (by kernel_rfl) (by kernel_rfl), fnOK Tryd.func131 (by kernel_rfl) (by kernel_rfl), fnOK Tryd.func132 (by kernel_rfl) (by kernel_rfl), fnOK Tryd.func133 (by kernel_rfl) (by kernel_rfl), fnOK Tryd.func134 (by kernel_rfl) (by kernel_rfl), fnOK Tryd.func135 (by kernel_rfl) (by kernel_rfl), fnOK Tryd.func136 (by kernel_rfl) (by kernel_rfl), fnOK Tryd.func137 (by kernel_rfl) (by kernel_rfl), fnOK Tryd.func138 (by kernel_rfl) (by kernel_rfl), fnOK Tryd.func139 (by kernel_rfl) (by kernel_rfl), fnOK Tryd.func140 (by kernel_rfl) (by kernel_rfl), fnOK Tryd.func141 (by kernel_rfl) (by kernel_rfl), fnOK Tryd.func142 (by kernel_rfl) (by kernel_rfl), fnOK Tryd.func143 (by kernel_rfl) (by kernel_rfl), fnOK Tryd.func144 (by kernel_rfl) (by kernel_rfl), fnOK Tryd.func145 (by kernel_rfl) (by kernel_rfl), fnOK Tryd.func146 (by kernel_rfl) (by kernel_rfl), fnOK Tryd.func147 (by kernel_rfl) (by kernel_rfl), fnOK Tryd.func148 (by kernel_rfl) (by kernel_rfl), fnOK Tryd.func149 (by kernel_rfl) (by kernel_rfl), fnOK Tryd.func150 (by kernel_rfl) (by kernel_rfl), fnOK Tryd.func151 (by kernel_rfl) (by kernel_rfl), fnOK Tryd.func152 (by kernel_rfl) (by kernel_rfl), fnOK Tryd.func153 (by kernel_rfl) (by kernel_rfl), fnOK Tryd.func154 (by kernel_rfl) (by kernel_rfl), fnOK Tryd.func155 (by kernel_rfl) (by kernel_rfl), fnOK Tryd.func175 (by kernel_rfl) (by kernel_rfl), fnOK Tryd.func176 (by kernel_rfl) (by kernel_rfl), fnOK Tryd.func183 (by kernel_rfl) (by kernel_rfl), trivial⟩
theorem mixed : Tryd.prog.follows .mixedOrders = true := by kernel_rfl
end Sx
end Go.Proofs.YtimjnajdpccjdaaDoor
