/- The types of the program, for the symbolic executor. No condition. (Printed by wip/mktab.py.) -/
import Derived.Test.YtlndkfcnfhkbkaaSxD
import Derived.Test.YtlndkfcnfhkbkaaChecked
namespace Go.Proofs.Ytlndkfcnfhkbkaa
open Go.RowKit
set_option linter.unusedVariables false
set_option maxRecDepth 100000
namespace Sx
theorem tyN {P : Program} {t : TypeId} {i : TyI} {it : TypeInfo} {d : TypeDesc} (h1 : P.info? t = some it) (h7 : P.underlying t = some d) (h9 : DescOK d i.d) (h2 : it.size = i.size := by kernel_rfl) (hb : it.bytes = i.bytes := by kernel_rfl) (h3 : it.zero = some (it.zero.getD undef) := by kernel_rfl) (h4 : (it.zero.getD undef).cells.toList = cellsL Num.zero i.zero := by kernel_rfl) (h5 : it.zero.getD undef = (if i.agg then .agg (it.zero.getD undef).cells else (it.zero.getD undef).cells.toList.headD undef) := by kernel_rfl) (h6 : plainL i.zero = true := by kernel_rfl) (h8 : isAggD d = i.agg := by kernel_rfl) (g : i.flat ≠ none → P.eqGuardType P.depth t = false := by exact fun h => absurd rfl h) (f : ∀ ks, i.flat = some ks → isAggT P t = true ∧ ∃ n, flatAt P n t = some ks ∧ n ≤ Op.maxDepth := by exact fun ks h => nomatch h) : TyOK P t i :=
  ⟨⟨it, it.zero.getD undef, h1, h2, hb, h3, h4, h5⟩, h6, ⟨d, h7, h8, h9⟩, g, f⟩
theorem descSt {fs : Array Field} {l : List (Nat × TypeId)} (h : fs.toList.map (fun f => (f.offset, f.type)) = l) : DescOK (.struct fs) (.st l) := h
theorem infoOf {t : TypeId} {it : TypeInfo} (h : Try.prog.types[t]? = some it) : Try.prog.info? t = some it := by
  unfold Tables.info?
  rw [if_pos (Array.getElem?_eq_some_iff.1 h).1]; exact h
def y2 : TyI := ⟨1, 8, false, [.lit .i64 0], .int .i64, none⟩
theorem ok2 : TyOK Try.prog 2 y2 := tyN (infoOf Try.type2) Try.underlying2 rfl
def y3 : TyI := ⟨1, 8, false, [.lit .i64 0], .int .i64, none⟩
theorem ok3 : TyOK Try.prog 3 y3 := tyN (infoOf Try.type3) Try.underlying3 rfl
def y4 : TyI := ⟨1, 1, false, [.litb false], .bool, none⟩
theorem ok4 : TyOK Try.prog 4 y4 := tyN (infoOf Try.type4) Try.underlying4 trivial
def y5 : TyI := ⟨1, 1, false, [.lit .u8 0], .int .u8, none⟩
theorem ok5 : TyOK Try.prog 5 y5 := tyN (infoOf Try.type5) Try.underlying5 rfl
def y6 : TyI := ⟨1, 1, false, [.lit .u8 0], .int .u8, none⟩
theorem ok6 : TyOK Try.prog 6 y6 := tyN (infoOf Try.type6) Try.underlying6 rfl
def y7 : TyI := ⟨4, 24, true, [.lit .i64 0, .lit .i64 0, .litb false, .lit .u8 0], .st [(0, 2), (1, 3), (2, 4), (3, 6)], some (List.replicate 1 (some .i64) ++ List.replicate 1 (some .i64) ++ List.replicate 1 (none) ++ List.replicate 1 (some .u8))⟩
theorem ok7 : TyOK Try.prog 7 y7 := tyN (infoOf Try.type7) Try.underlying7 (descSt (by kernel_rfl)) (g := fun _ => by kernel_rfl) (f := fun ks h => by cases h; exact ⟨by kernel_rfl, 8, by kernel_rfl, by decide⟩)
def y8 : TyI := ⟨4, 24, true, [.lit .i64 0, .lit .i64 0, .litb false, .lit .u8 0], .st [(0, 2), (1, 3), (2, 4), (3, 6)], some (List.replicate 1 (some .i64) ++ List.replicate 1 (some .i64) ++ List.replicate 1 (none) ++ List.replicate 1 (some .u8))⟩
theorem ok8 : TyOK Try.prog 8 y8 := tyN (infoOf Try.type8) Try.underlying8 (descSt (by kernel_rfl)) (g := fun _ => by kernel_rfl) (f := fun ks h => by cases h; exact ⟨by kernel_rfl, 8, by kernel_rfl, by decide⟩)
def y9 : TyI := ⟨1, 16, false, [.str ⟨#[]⟩], .str, none⟩
theorem ok9 : TyOK Try.prog 9 y9 := tyN (infoOf Try.type9) Try.underlying9 trivial
def y10 : TyI := ⟨1, 16, false, [.str ⟨#[]⟩], .str, none⟩
theorem ok10 : TyOK Try.prog 10 y10 := tyN (infoOf Try.type10) Try.underlying10 trivial
def y11 : TyI := ⟨1, 16, false, [.str ⟨#[]⟩], .str, none⟩
theorem ok11 : TyOK Try.prog 11 y11 := tyN (infoOf Try.type11) Try.underlying11 trivial
def y12 : TyI := ⟨1, 8, false, [.lit .u64 0], .int .u64, none⟩
theorem ok12 : TyOK Try.prog 12 y12 := tyN (infoOf Try.type12) Try.underlying12 rfl
def y13 : TyI := ⟨2, 24, true, [.str ⟨#[]⟩, .lit .u64 0], .st [(0, 9), (1, 12)], none⟩
theorem ok13 : TyOK Try.prog 13 y13 := tyN (infoOf Try.type13) Try.underlying13 (descSt (by kernel_rfl))
def y14 : TyI := ⟨2, 24, true, [.str ⟨#[]⟩, .lit .u64 0], .st [(0, 9), (1, 12)], none⟩
theorem ok14 : TyOK Try.prog 14 y14 := tyN (infoOf Try.type14) Try.underlying14 (descSt (by kernel_rfl))
def y15 : TyI := ⟨1, 8, false, [.val (.pointer none)], .ptr 278, none⟩
theorem ok15 : TyOK Try.prog 15 y15 := tyN (infoOf Try.type15) Try.underlying15 rfl
def y16 : TyI := ⟨1, 8, false, [.val (.pointer none)], .ptr 281, none⟩
theorem ok16 : TyOK Try.prog 16 y16 := tyN (infoOf Try.type16) Try.underlying16 rfl
def y17 : TyI := ⟨1, 8, false, [.val (.pointer none)], .ptr 289, none⟩
theorem ok17 : TyOK Try.prog 17 y17 := tyN (infoOf Try.type17) Try.underlying17 rfl
def y18 : TyI := ⟨1, 8, true, [.val (.pointer none)], .st [(0, 17)], none⟩
theorem ok18 : TyOK Try.prog 18 y18 := tyN (infoOf Try.type18) Try.underlying18 (descSt (by kernel_rfl))
def y19 : TyI := ⟨1, 8, true, [.val (.pointer none)], .st [(0, 17)], none⟩
theorem ok19 : TyOK Try.prog 19 y19 := tyN (infoOf Try.type19) Try.underlying19 (descSt (by kernel_rfl))
def y20 : TyI := ⟨1, 16, false, [.val .nilIface], .other, none⟩
theorem ok20 : TyOK Try.prog 20 y20 := tyN (infoOf Try.type20) Try.underlying20 trivial
def y21 : TyI := ⟨1, 4, false, [.lit .i32 0], .int .i32, none⟩
theorem ok21 : TyOK Try.prog 21 y21 := tyN (infoOf Try.type21) Try.underlying21 rfl
def y22 : TyI := ⟨1, 24, false, [.val (.slice none 0 0)], .sl 45, none⟩
theorem ok22 : TyOK Try.prog 22 y22 := tyN (infoOf Try.type22) Try.underlying22 rfl
def y23 : TyI := ⟨1, 8, false, [.val (.pointer none)], .ptr 181, none⟩
theorem ok23 : TyOK Try.prog 23 y23 := tyN (infoOf Try.type23) Try.underlying23 rfl
def y27 : TyI := ⟨1, 24, false, [.val (.slice none 0 0)], .sl 40, none⟩
theorem ok27 : TyOK Try.prog 27 y27 := tyN (infoOf Try.type27) Try.underlying27 rfl
def y28 : TyI := ⟨1, 24, false, [.val (.slice none 0 0)], .sl 27, none⟩
theorem ok28 : TyOK Try.prog 28 y28 := tyN (infoOf Try.type28) Try.underlying28 rfl
def y30 : TyI := ⟨1, 8, false, [.lit .i64 0], .int .i64, none⟩
theorem ok30 : TyOK Try.prog 30 y30 := tyN (infoOf Try.type30) Try.underlying30 rfl
def y34 : TyI := ⟨1, 4, false, [.lit .u32 0], .int .u32, none⟩
theorem ok34 : TyOK Try.prog 34 y34 := tyN (infoOf Try.type34) Try.underlying34 rfl
def y35 : TyI := ⟨2, 16, true, [.litb false, .lit .i64 0], .st [(0, 4), (1, 3)], some (List.replicate 1 (none) ++ List.replicate 1 (some .i64))⟩
theorem ok35 : TyOK Try.prog 35 y35 := tyN (infoOf Try.type35) Try.underlying35 (descSt (by kernel_rfl)) (g := fun _ => by kernel_rfl) (f := fun ks h => by cases h; exact ⟨by kernel_rfl, 8, by kernel_rfl, by decide⟩)
def y36 : TyI := ⟨2, 16, true, [.litb false, .lit .i64 0], .st [(0, 4), (1, 3)], some (List.replicate 1 (none) ++ List.replicate 1 (some .i64))⟩
theorem ok36 : TyOK Try.prog 36 y36 := tyN (infoOf Try.type36) Try.underlying36 (descSt (by kernel_rfl)) (g := fun _ => by kernel_rfl) (f := fun ks h => by cases h; exact ⟨by kernel_rfl, 8, by kernel_rfl, by decide⟩)
def y37 : TyI := ⟨4, 24, true, [.litb false, .lit .i64 0, .litb false, .litb false], .st [(0, 36), (2, 4), (3, 4)], some (List.replicate 1 (none) ++ List.replicate 1 (some .i64) ++ List.replicate 1 (none) ++ List.replicate 1 (none))⟩
theorem ok37 : TyOK Try.prog 37 y37 := tyN (infoOf Try.type37) Try.underlying37 (descSt (by kernel_rfl)) (g := fun _ => by kernel_rfl) (f := fun ks h => by cases h; exact ⟨by kernel_rfl, 8, by kernel_rfl, by decide⟩)
def y38 : TyI := ⟨4, 24, true, [.litb false, .lit .i64 0, .litb false, .litb false], .st [(0, 36), (2, 4), (3, 4)], some (List.replicate 1 (none) ++ List.replicate 1 (some .i64) ++ List.replicate 1 (none) ++ List.replicate 1 (none))⟩
theorem ok38 : TyOK Try.prog 38 y38 := tyN (infoOf Try.type38) Try.underlying38 (descSt (by kernel_rfl)) (g := fun _ => by kernel_rfl) (f := fun ks h => by cases h; exact ⟨by kernel_rfl, 8, by kernel_rfl, by decide⟩)
def y39 : TyI := ⟨5, 32, true, [.lit .u32 0, .litb false, .lit .i64 0, .litb false, .litb false], .st [(0, 34), (1, 38)], some (List.replicate 1 (some .u32) ++ List.replicate 1 (none) ++ List.replicate 1 (some .i64) ++ List.replicate 1 (none) ++ List.replicate 1 (none))⟩
theorem ok39 : TyOK Try.prog 39 y39 := tyN (infoOf Try.type39) Try.underlying39 (descSt (by kernel_rfl)) (g := fun _ => by kernel_rfl) (f := fun ks h => by cases h; exact ⟨by kernel_rfl, 8, by kernel_rfl, by decide⟩)
def y40 : TyI := ⟨5, 32, true, [.lit .u32 0, .litb false, .lit .i64 0, .litb false, .litb false], .st [(0, 34), (1, 38)], some (List.replicate 1 (some .u32) ++ List.replicate 1 (none) ++ List.replicate 1 (some .i64) ++ List.replicate 1 (none) ++ List.replicate 1 (none))⟩
theorem ok40 : TyOK Try.prog 40 y40 := tyN (infoOf Try.type40) Try.underlying40 (descSt (by kernel_rfl)) (g := fun _ => by kernel_rfl) (f := fun ks h => by cases h; exact ⟨by kernel_rfl, 8, by kernel_rfl, by decide⟩)
def y42 : TyI := ⟨1, 24, false, [.val (.slice none 0 0)], .sl 3, none⟩
theorem ok42 : TyOK Try.prog 42 y42 := tyN (infoOf Try.type42) Try.underlying42 rfl
def y44 : TyI := ⟨6, 40, true, [.lit .i64 0, .lit .i64 0, .litb false, .lit .i64 0, .litb false, .litb false], .st [(0, 3), (1, 3), (2, 4), (3, 3), (4, 4), (5, 4)], some (List.replicate 1 (some .i64) ++ List.replicate 1 (some .i64) ++ List.replicate 1 (none) ++ List.replicate 1 (some .i64) ++ List.replicate 1 (none) ++ List.replicate 1 (none))⟩
theorem ok44 : TyOK Try.prog 44 y44 := tyN (infoOf Try.type44) Try.underlying44 (descSt (by kernel_rfl)) (g := fun _ => by kernel_rfl) (f := fun ks h => by cases h; exact ⟨by kernel_rfl, 8, by kernel_rfl, by decide⟩)
def y45 : TyI := ⟨6, 40, true, [.lit .i64 0, .lit .i64 0, .litb false, .lit .i64 0, .litb false, .litb false], .st [(0, 3), (1, 3), (2, 4), (3, 3), (4, 4), (5, 4)], some (List.replicate 1 (some .i64) ++ List.replicate 1 (some .i64) ++ List.replicate 1 (none) ++ List.replicate 1 (some .i64) ++ List.replicate 1 (none) ++ List.replicate 1 (none))⟩
theorem ok45 : TyOK Try.prog 45 y45 := tyN (infoOf Try.type45) Try.underlying45 (descSt (by kernel_rfl)) (g := fun _ => by kernel_rfl) (f := fun ks h => by cases h; exact ⟨by kernel_rfl, 8, by kernel_rfl, by decide⟩)
def y52 : TyI := ⟨1, 24, false, [.val (.slice none 0 0)], .sl 58, none⟩
theorem ok52 : TyOK Try.prog 52 y52 := tyN (infoOf Try.type52) Try.underlying52 rfl
def y53 : TyI := ⟨3, 40, true, [.lit .i64 0, .lit .i64 0, .val (.slice none 0 0)], .st [(0, 3), (1, 3), (2, 52)], none⟩
theorem ok53 : TyOK Try.prog 53 y53 := tyN (infoOf Try.type53) Try.underlying53 (descSt (by kernel_rfl))
def y54 : TyI := ⟨3, 40, true, [.lit .i64 0, .lit .i64 0, .val (.slice none 0 0)], .st [(0, 3), (1, 3), (2, 52)], none⟩
theorem ok54 : TyOK Try.prog 54 y54 := tyN (infoOf Try.type54) Try.underlying54 (descSt (by kernel_rfl))
def y55 : TyI := ⟨3, 24, true, [.lit .i64 0, .lit .u32 0, .lit .i64 0], .st [(0, 3), (1, 34), (2, 3)], some (List.replicate 1 (some .i64) ++ List.replicate 1 (some .u32) ++ List.replicate 1 (some .i64))⟩
theorem ok55 : TyOK Try.prog 55 y55 := tyN (infoOf Try.type55) Try.underlying55 (descSt (by kernel_rfl)) (g := fun _ => by kernel_rfl) (f := fun ks h => by cases h; exact ⟨by kernel_rfl, 8, by kernel_rfl, by decide⟩)
def y56 : TyI := ⟨3, 24, true, [.lit .i64 0, .lit .u32 0, .lit .i64 0], .st [(0, 3), (1, 34), (2, 3)], some (List.replicate 1 (some .i64) ++ List.replicate 1 (some .u32) ++ List.replicate 1 (some .i64))⟩
theorem ok56 : TyOK Try.prog 56 y56 := tyN (infoOf Try.type56) Try.underlying56 (descSt (by kernel_rfl)) (g := fun _ => by kernel_rfl) (f := fun ks h => by cases h; exact ⟨by kernel_rfl, 8, by kernel_rfl, by decide⟩)
def y57 : TyI := ⟨4, 32, true, [.litb false, .lit .i64 0, .lit .i64 0, .lit .u32 0], .st [(0, 4), (1, 3), (2, 3), (3, 34)], some (List.replicate 1 (none) ++ List.replicate 1 (some .i64) ++ List.replicate 1 (some .i64) ++ List.replicate 1 (some .u32))⟩
theorem ok57 : TyOK Try.prog 57 y57 := tyN (infoOf Try.type57) Try.underlying57 (descSt (by kernel_rfl)) (g := fun _ => by kernel_rfl) (f := fun ks h => by cases h; exact ⟨by kernel_rfl, 8, by kernel_rfl, by decide⟩)
def y58 : TyI := ⟨4, 32, true, [.litb false, .lit .i64 0, .lit .i64 0, .lit .u32 0], .st [(0, 4), (1, 3), (2, 3), (3, 34)], some (List.replicate 1 (none) ++ List.replicate 1 (some .i64) ++ List.replicate 1 (some .i64) ++ List.replicate 1 (some .u32))⟩
theorem ok58 : TyOK Try.prog 58 y58 := tyN (infoOf Try.type58) Try.underlying58 (descSt (by kernel_rfl)) (g := fun _ => by kernel_rfl) (f := fun ks h => by cases h; exact ⟨by kernel_rfl, 8, by kernel_rfl, by decide⟩)
def y64 : TyI := ⟨1, 8, false, [.lit .i64 0], .int .i64, none⟩
theorem ok64 : TyOK Try.prog 64 y64 := tyN (infoOf Try.type64) Try.underlying64 rfl
def y73 : TyI := ⟨1, 24, false, [.val (.slice none 0 0)], .sl 56, none⟩
theorem ok73 : TyOK Try.prog 73 y73 := tyN (infoOf Try.type73) Try.underlying73 rfl
def y74 : TyI := ⟨1, 8, false, [.val (.pointer none)], .ptr 193, none⟩
theorem ok74 : TyOK Try.prog 74 y74 := tyN (infoOf Try.type74) Try.underlying74 rfl
def y76 : TyI := ⟨4, 24, true, [.litb false, .lit .i64 0, .litb false, .litb false], .st [(0, 4), (1, 3), (2, 4), (3, 4)], some (List.replicate 1 (none) ++ List.replicate 1 (some .i64) ++ List.replicate 1 (none) ++ List.replicate 1 (none))⟩
theorem ok76 : TyOK Try.prog 76 y76 := tyN (infoOf Try.type76) Try.underlying76 (descSt (by kernel_rfl)) (g := fun _ => by kernel_rfl) (f := fun ks h => by cases h; exact ⟨by kernel_rfl, 8, by kernel_rfl, by decide⟩)
def y77 : TyI := ⟨4, 24, true, [.litb false, .lit .i64 0, .litb false, .litb false], .st [(0, 4), (1, 3), (2, 4), (3, 4)], some (List.replicate 1 (none) ++ List.replicate 1 (some .i64) ++ List.replicate 1 (none) ++ List.replicate 1 (none))⟩
theorem ok77 : TyOK Try.prog 77 y77 := tyN (infoOf Try.type77) Try.underlying77 (descSt (by kernel_rfl)) (g := fun _ => by kernel_rfl) (f := fun ks h => by cases h; exact ⟨by kernel_rfl, 8, by kernel_rfl, by decide⟩)
def y81 : TyI := ⟨2, 16, true, [.litb false, .lit .i64 0], .st [(0, 4), (1, 3)], some (List.replicate 1 (none) ++ List.replicate 1 (some .i64))⟩
theorem ok81 : TyOK Try.prog 81 y81 := tyN (infoOf Try.type81) Try.underlying81 (descSt (by kernel_rfl)) (g := fun _ => by kernel_rfl) (f := fun ks h => by cases h; exact ⟨by kernel_rfl, 8, by kernel_rfl, by decide⟩)
def y84 : TyI := ⟨1, 24, false, [.val (.slice none 0 0)], .sl 88, none⟩
theorem ok84 : TyOK Try.prog 84 y84 := tyN (infoOf Try.type84) Try.underlying84 rfl
def y87 : TyI := ⟨5, 32, true, [.lit .u32 0, .litb false, .lit .i64 0, .litb false, .litb false], .st [(0, 34), (1, 77)], some (List.replicate 1 (some .u32) ++ List.replicate 1 (none) ++ List.replicate 1 (some .i64) ++ List.replicate 1 (none) ++ List.replicate 1 (none))⟩
theorem ok87 : TyOK Try.prog 87 y87 := tyN (infoOf Try.type87) Try.underlying87 (descSt (by kernel_rfl)) (g := fun _ => by kernel_rfl) (f := fun ks h => by cases h; exact ⟨by kernel_rfl, 8, by kernel_rfl, by decide⟩)
def y88 : TyI := ⟨5, 32, true, [.lit .u32 0, .litb false, .lit .i64 0, .litb false, .litb false], .st [(0, 34), (1, 77)], some (List.replicate 1 (some .u32) ++ List.replicate 1 (none) ++ List.replicate 1 (some .i64) ++ List.replicate 1 (none) ++ List.replicate 1 (none))⟩
theorem ok88 : TyOK Try.prog 88 y88 := tyN (infoOf Try.type88) Try.underlying88 (descSt (by kernel_rfl)) (g := fun _ => by kernel_rfl) (f := fun ks h => by cases h; exact ⟨by kernel_rfl, 8, by kernel_rfl, by decide⟩)
def y90 : TyI := ⟨1, 24, false, [.val (.slice none 0 0)], .sl 95, none⟩
theorem ok90 : TyOK Try.prog 90 y90 := tyN (infoOf Try.type90) Try.underlying90 rfl
def y91 : TyI := ⟨1, 8, false, [.val (.pointer none)], .ptr 205, none⟩
theorem ok91 : TyOK Try.prog 91 y91 := tyN (infoOf Try.type91) Try.underlying91 rfl
def y94 : TyI := ⟨8, 64, true, [.lit .i64 0, .lit .i64 0, .lit .i64 0, .lit .i64 0, .lit .i64 0, .litb false, .lit .i64 0, .lit .u32 0], .st [(0, 3), (1, 3), (2, 3), (3, 3), (4, 3), (5, 4), (6, 3), (7, 34)], some (List.replicate 1 (some .i64) ++ List.replicate 1 (some .i64) ++ List.replicate 1 (some .i64) ++ List.replicate 1 (some .i64) ++ List.replicate 1 (some .i64) ++ List.replicate 1 (none) ++ List.replicate 1 (some .i64) ++ List.replicate 1 (some .u32))⟩
theorem ok94 : TyOK Try.prog 94 y94 := tyN (infoOf Try.type94) Try.underlying94 (descSt (by kernel_rfl)) (g := fun _ => by kernel_rfl) (f := fun ks h => by cases h; exact ⟨by kernel_rfl, 8, by kernel_rfl, by decide⟩)
def y95 : TyI := ⟨8, 64, true, [.lit .i64 0, .lit .i64 0, .lit .i64 0, .lit .i64 0, .lit .i64 0, .litb false, .lit .i64 0, .lit .u32 0], .st [(0, 3), (1, 3), (2, 3), (3, 3), (4, 3), (5, 4), (6, 3), (7, 34)], some (List.replicate 1 (some .i64) ++ List.replicate 1 (some .i64) ++ List.replicate 1 (some .i64) ++ List.replicate 1 (some .i64) ++ List.replicate 1 (some .i64) ++ List.replicate 1 (none) ++ List.replicate 1 (some .i64) ++ List.replicate 1 (some .u32))⟩
theorem ok95 : TyOK Try.prog 95 y95 := tyN (infoOf Try.type95) Try.underlying95 (descSt (by kernel_rfl)) (g := fun _ => by kernel_rfl) (f := fun ks h => by cases h; exact ⟨by kernel_rfl, 8, by kernel_rfl, by decide⟩)
def y102 : TyI := ⟨1, 24, false, [.val (.slice none 0 0)], .sl 34, none⟩
theorem ok102 : TyOK Try.prog 102 y102 := tyN (infoOf Try.type102) Try.underlying102 rfl
def y106 : TyI := ⟨1, 8, false, [.lit .i64 0], .int .i64, none⟩
theorem ok106 : TyOK Try.prog 106 y106 := tyN (infoOf Try.type106) Try.underlying106 rfl
def y107 : TyI := ⟨1, 8, false, [.lit .i64 0], .int .i64, none⟩
theorem ok107 : TyOK Try.prog 107 y107 := tyN (infoOf Try.type107) Try.underlying107 rfl
def y108 : TyI := ⟨5, 40, true, [.lit .i64 0, .lit .i64 0, .lit .i64 0, .lit .i64 0, .litb false], .st [(0, 106), (1, 3), (2, 3), (3, 107), (4, 4)], some (List.replicate 1 (some .i64) ++ List.replicate 1 (some .i64) ++ List.replicate 1 (some .i64) ++ List.replicate 1 (some .i64) ++ List.replicate 1 (none))⟩
theorem ok108 : TyOK Try.prog 108 y108 := tyN (infoOf Try.type108) Try.underlying108 (descSt (by kernel_rfl)) (g := fun _ => by kernel_rfl) (f := fun ks h => by cases h; exact ⟨by kernel_rfl, 8, by kernel_rfl, by decide⟩)
def y109 : TyI := ⟨5, 40, true, [.lit .i64 0, .lit .i64 0, .lit .i64 0, .lit .i64 0, .litb false], .st [(0, 106), (1, 3), (2, 3), (3, 107), (4, 4)], some (List.replicate 1 (some .i64) ++ List.replicate 1 (some .i64) ++ List.replicate 1 (some .i64) ++ List.replicate 1 (some .i64) ++ List.replicate 1 (none))⟩
theorem ok109 : TyOK Try.prog 109 y109 := tyN (infoOf Try.type109) Try.underlying109 (descSt (by kernel_rfl)) (g := fun _ => by kernel_rfl) (f := fun ks h => by cases h; exact ⟨by kernel_rfl, 8, by kernel_rfl, by decide⟩)
def y118 : TyI := ⟨1, 24, false, [.val (.slice none 0 0)], .sl 102, none⟩
theorem ok118 : TyOK Try.prog 118 y118 := tyN (infoOf Try.type118) Try.underlying118 rfl
def y119 : TyI := ⟨1, 24, false, [.val (.slice none 0 0)], .sl 42, none⟩
theorem ok119 : TyOK Try.prog 119 y119 := tyN (infoOf Try.type119) Try.underlying119 rfl
def y123 : TyI := ⟨1, 8, false, [.val (.pointer none)], .ptr 135, none⟩
theorem ok123 : TyOK Try.prog 123 y123 := tyN (infoOf Try.type123) Try.underlying123 rfl
def y124 : TyI := ⟨2, 16, true, [.val (.pointer none), .val (.pointer none)], .st [(0, 91), (1, 123)], none⟩
theorem ok124 : TyOK Try.prog 124 y124 := tyN (infoOf Try.type124) Try.underlying124 (descSt (by kernel_rfl))
def y125 : TyI := ⟨2, 16, true, [.val (.pointer none), .val (.pointer none)], .st [(0, 91), (1, 123)], none⟩
theorem ok125 : TyOK Try.prog 125 y125 := tyN (infoOf Try.type125) Try.underlying125 (descSt (by kernel_rfl))
def y129 : TyI := ⟨1, 24, false, [.val (.slice none 0 0)], .sl 125, none⟩
theorem ok129 : TyOK Try.prog 129 y129 := tyN (infoOf Try.type129) Try.underlying129 rfl
def y133 : TyI := ⟨1, 24, false, [.val (.slice none 0 0)], .sl 228, none⟩
theorem ok133 : TyOK Try.prog 133 y133 := tyN (infoOf Try.type133) Try.underlying133 rfl
def y134 : TyI := ⟨3, 40, true, [.val (.pointer none), .val (.slice none 0 0), .lit .i64 0], .st [(0, 74), (1, 133), (2, 3)], none⟩
theorem ok134 : TyOK Try.prog 134 y134 := tyN (infoOf Try.type134) Try.underlying134 (descSt (by kernel_rfl))
def y135 : TyI := ⟨3, 40, true, [.val (.pointer none), .val (.slice none 0 0), .lit .i64 0], .st [(0, 74), (1, 133), (2, 3)], none⟩
theorem ok135 : TyOK Try.prog 135 y135 := tyN (infoOf Try.type135) Try.underlying135 (descSt (by kernel_rfl))
def y139 : TyI := ⟨1, 24, false, [.val (.slice none 0 0)], .sl 144, none⟩
theorem ok139 : TyOK Try.prog 139 y139 := tyN (infoOf Try.type139) Try.underlying139 rfl
def y140 : TyI := ⟨1, 24, false, [.val (.slice none 0 0)], .sl 147, none⟩
theorem ok140 : TyOK Try.prog 140 y140 := tyN (infoOf Try.type140) Try.underlying140 rfl
def y143 : TyI := ⟨6, 32, true, [.litb false, .lit .u32 0, .litb false, .lit .i64 0, .litb false, .litb false], .st [(0, 4), (1, 34), (2, 77)], some (List.replicate 1 (none) ++ List.replicate 1 (some .u32) ++ List.replicate 1 (none) ++ List.replicate 1 (some .i64) ++ List.replicate 1 (none) ++ List.replicate 1 (none))⟩
theorem ok143 : TyOK Try.prog 143 y143 := tyN (infoOf Try.type143) Try.underlying143 (descSt (by kernel_rfl)) (g := fun _ => by kernel_rfl) (f := fun ks h => by cases h; exact ⟨by kernel_rfl, 8, by kernel_rfl, by decide⟩)
def y144 : TyI := ⟨6, 32, true, [.litb false, .lit .u32 0, .litb false, .lit .i64 0, .litb false, .litb false], .st [(0, 4), (1, 34), (2, 77)], some (List.replicate 1 (none) ++ List.replicate 1 (some .u32) ++ List.replicate 1 (none) ++ List.replicate 1 (some .i64) ++ List.replicate 1 (none) ++ List.replicate 1 (none))⟩
theorem ok144 : TyOK Try.prog 144 y144 := tyN (infoOf Try.type144) Try.underlying144 (descSt (by kernel_rfl)) (g := fun _ => by kernel_rfl) (f := fun ks h => by cases h; exact ⟨by kernel_rfl, 8, by kernel_rfl, by decide⟩)
def y147 : TyI := ⟨5, 32, true, [.lit .u32 0, .litb false, .lit .i64 0, .litb false, .litb false], .st [(0, 34), (1, 38)], some (List.replicate 1 (some .u32) ++ List.replicate 1 (none) ++ List.replicate 1 (some .i64) ++ List.replicate 1 (none) ++ List.replicate 1 (none))⟩
theorem ok147 : TyOK Try.prog 147 y147 := tyN (infoOf Try.type147) Try.underlying147 (descSt (by kernel_rfl)) (g := fun _ => by kernel_rfl) (f := fun ks h => by cases h; exact ⟨by kernel_rfl, 8, by kernel_rfl, by decide⟩)
def y152 : TyI := ⟨1, 24, false, [.val (.slice none 0 0)], .sl 159, none⟩
theorem ok152 : TyOK Try.prog 152 y152 := tyN (infoOf Try.type152) Try.underlying152 rfl
def y157 : TyI := ⟨1, 8, false, [.lit .u64 0], .int .u64, none⟩
theorem ok157 : TyOK Try.prog 157 y157 := tyN (infoOf Try.type157) Try.underlying157 rfl
def y158 : TyI := ⟨7, 80, true, [.val (.slice none 0 0), .val (.slice none 0 0), .lit .u32 0, .litb false, .lit .i64 0, .litb false, .litb false], .st [(0, 27), (1, 27), (2, 40)], none⟩
theorem ok158 : TyOK Try.prog 158 y158 := tyN (infoOf Try.type158) Try.underlying158 (descSt (by kernel_rfl))
def y159 : TyI := ⟨7, 80, true, [.val (.slice none 0 0), .val (.slice none 0 0), .lit .u32 0, .litb false, .lit .i64 0, .litb false, .litb false], .st [(0, 27), (1, 27), (2, 40)], none⟩
theorem ok159 : TyOK Try.prog 159 y159 := tyN (infoOf Try.type159) Try.underlying159 (descSt (by kernel_rfl))
def y178 : TyI := ⟨1, 24, false, [.val (.slice none 0 0)], .sl 183, none⟩
theorem ok178 : TyOK Try.prog 178 y178 := tyN (infoOf Try.type178) Try.underlying178 rfl
def y180 : TyI := ⟨3, 56, true, [.val (.slice none 0 0), .val (.slice none 0 0), .lit .i64 0], .st [(0, 178), (1, 178), (2, 2)], none⟩
theorem ok180 : TyOK Try.prog 180 y180 := tyN (infoOf Try.type180) Try.underlying180 (descSt (by kernel_rfl))
def y181 : TyI := ⟨3, 56, true, [.val (.slice none 0 0), .val (.slice none 0 0), .lit .i64 0], .st [(0, 178), (1, 178), (2, 2)], none⟩
theorem ok181 : TyOK Try.prog 181 y181 := tyN (infoOf Try.type181) Try.underlying181 (descSt (by kernel_rfl))
def y183 : TyI := ⟨1, 8, false, [.val (.pointer none)], .ptr 257, none⟩
theorem ok183 : TyOK Try.prog 183 y183 := tyN (infoOf Try.type183) Try.underlying183 rfl
def y186 : TyI := ⟨1, 8, false, [.val (.pointer none)], .ptr 34, none⟩
theorem ok186 : TyOK Try.prog 186 y186 := tyN (infoOf Try.type186) Try.underlying186 rfl
def y192 : TyI := ⟨3, 40, true, [.val (.slice none 0 0), .lit .i64 0, .lit .i64 0], .st [(0, 118), (1, 3), (2, 2)], none⟩
theorem ok192 : TyOK Try.prog 192 y192 := tyN (infoOf Try.type192) Try.underlying192 (descSt (by kernel_rfl))
def y193 : TyI := ⟨3, 40, true, [.val (.slice none 0 0), .lit .i64 0, .lit .i64 0], .st [(0, 118), (1, 3), (2, 2)], none⟩
theorem ok193 : TyOK Try.prog 193 y193 := tyN (infoOf Try.type193) Try.underlying193 (descSt (by kernel_rfl))
def y204 : TyI := ⟨3, 40, true, [.val (.pointer none), .lit .i64 0, .val (.slice none 0 0)], .st [(0, 23), (1, 3), (2, 102)], none⟩
theorem ok204 : TyOK Try.prog 204 y204 := tyN (infoOf Try.type204) Try.underlying204 (descSt (by kernel_rfl))
def y205 : TyI := ⟨3, 40, true, [.val (.pointer none), .lit .i64 0, .val (.slice none 0 0)], .st [(0, 23), (1, 3), (2, 102)], none⟩
theorem ok205 : TyOK Try.prog 205 y205 := tyN (infoOf Try.type205) Try.underlying205 (descSt (by kernel_rfl))
def y217 : TyI := ⟨2, 8, true, [.lit .u32 0, .lit .u32 0], .arr 2 34, some (List.replicate 2 (some .u32))⟩
theorem ok217 : TyOK Try.prog 217 y217 := tyN (infoOf Try.type217) Try.underlying217 ⟨rfl, rfl⟩ (g := fun _ => by kernel_rfl) (f := fun ks h => by cases h; exact ⟨by kernel_rfl, 8, by kernel_rfl, by decide⟩)
def y227 : TyI := ⟨5, 40, true, [.lit .i64 0, .lit .i64 0, .lit .i64 0, .lit .i64 0, .litb false], .st [(0, 3), (1, 3), (2, 3), (3, 3), (4, 4)], some (List.replicate 1 (some .i64) ++ List.replicate 1 (some .i64) ++ List.replicate 1 (some .i64) ++ List.replicate 1 (some .i64) ++ List.replicate 1 (none))⟩
theorem ok227 : TyOK Try.prog 227 y227 := tyN (infoOf Try.type227) Try.underlying227 (descSt (by kernel_rfl)) (g := fun _ => by kernel_rfl) (f := fun ks h => by cases h; exact ⟨by kernel_rfl, 8, by kernel_rfl, by decide⟩)
def y228 : TyI := ⟨5, 40, true, [.lit .i64 0, .lit .i64 0, .lit .i64 0, .lit .i64 0, .litb false], .st [(0, 3), (1, 3), (2, 3), (3, 3), (4, 4)], some (List.replicate 1 (some .i64) ++ List.replicate 1 (some .i64) ++ List.replicate 1 (some .i64) ++ List.replicate 1 (some .i64) ++ List.replicate 1 (none))⟩
theorem ok228 : TyOK Try.prog 228 y228 := tyN (infoOf Try.type228) Try.underlying228 (descSt (by kernel_rfl)) (g := fun _ => by kernel_rfl) (f := fun ks h => by cases h; exact ⟨by kernel_rfl, 8, by kernel_rfl, by decide⟩)
def y241 : TyI := ⟨2, 16, true, [.val .nilFunc, .val .nilFunc], .st [(0, 239), (1, 240)], none⟩
theorem ok241 : TyOK Try.prog 241 y241 := tyN (infoOf Try.type241) Try.underlying241 (descSt (by kernel_rfl))
def y242 : TyI := ⟨2, 16, true, [.val .nilFunc, .val .nilFunc], .st [(0, 239), (1, 240)], none⟩
theorem ok242 : TyOK Try.prog 242 y242 := tyN (infoOf Try.type242) Try.underlying242 (descSt (by kernel_rfl))
def y250 : TyI := ⟨2, 8, true, [.litb false, .lit .u32 0], .st [(0, 4), (1, 34)], some (List.replicate 1 (none) ++ List.replicate 1 (some .u32))⟩
theorem ok250 : TyOK Try.prog 250 y250 := tyN (infoOf Try.type250) Try.underlying250 (descSt (by kernel_rfl)) (g := fun _ => by kernel_rfl) (f := fun ks h => by cases h; exact ⟨by kernel_rfl, 8, by kernel_rfl, by decide⟩)
def y251 : TyI := ⟨1, 24, false, [.val (.slice none 0 0)], .sl 250, none⟩
theorem ok251 : TyOK Try.prog 251 y251 := tyN (infoOf Try.type251) Try.underlying251 rfl
def y256 : TyI := ⟨1024, 4096, true, [.ints .u32 1024 (List.replicate 1024 0)], .arr 1024 34, some (List.replicate 1024 (some .u32))⟩
theorem ok256 : TyOK Try.prog 256 y256 := tyN (infoOf Try.type256) Try.underlying256 ⟨rfl, rfl⟩ (g := fun _ => by kernel_rfl) (f := fun ks h => by cases h; exact ⟨by kernel_rfl, 8, by kernel_rfl, by decide⟩)
def y257 : TyI := ⟨1024, 4096, true, [.ints .u32 1024 (List.replicate 1024 0)], .arr 1024 34, some (List.replicate 1024 (some .u32))⟩
theorem ok257 : TyOK Try.prog 257 y257 := tyN (infoOf Try.type257) Try.underlying257 ⟨rfl, rfl⟩ (g := fun _ => by kernel_rfl) (f := fun ks h => by cases h; exact ⟨by kernel_rfl, 8, by kernel_rfl, by decide⟩)
def y271 : TyI := ⟨3, 24, true, [.val (.pointer none), .lit .i64 0, .lit .i64 0], .st [(0, 23), (1, 3), (2, 3)], none⟩
theorem ok271 : TyOK Try.prog 271 y271 := tyN (infoOf Try.type271) Try.underlying271 (descSt (by kernel_rfl))
def y272 : TyI := ⟨3, 24, true, [.val (.pointer none), .lit .i64 0, .lit .i64 0], .st [(0, 23), (1, 3), (2, 3)], none⟩
theorem ok272 : TyOK Try.prog 272 y272 := tyN (infoOf Try.type272) Try.underlying272 (descSt (by kernel_rfl))
def y277 : TyI := ⟨4, 40, true, [.val (.pointer none), .val (.pointer none), .val (.pointer none), .str ⟨#[]⟩], .st [(0, 17), (1, 17), (2, 17), (3, 9)], none⟩
theorem ok277 : TyOK Try.prog 277 y277 := tyN (infoOf Try.type277) Try.underlying277 (descSt (by kernel_rfl))
def y278 : TyI := ⟨4, 40, true, [.val (.pointer none), .val (.pointer none), .val (.pointer none), .str ⟨#[]⟩], .st [(0, 17), (1, 17), (2, 17), (3, 9)], none⟩
theorem ok278 : TyOK Try.prog 278 y278 := tyN (infoOf Try.type278) Try.underlying278 (descSt (by kernel_rfl))
def y282 : TyI := ⟨1, 1, false, [.lit .u8 0], .int .u8, none⟩
theorem ok282 : TyOK Try.prog 282 y282 := tyN (infoOf Try.type282) Try.underlying282 rfl
def y283 : TyI := ⟨1, 1, false, [.lit .u8 0], .int .u8, none⟩
theorem ok283 : TyOK Try.prog 283 y283 := tyN (infoOf Try.type283) Try.underlying283 rfl
def y285 : TyI := ⟨1, 8, false, [.val (.pointer none)], .ptr 5, none⟩
theorem ok285 : TyOK Try.prog 285 y285 := tyN (infoOf Try.type285) Try.underlying285 rfl
def y286 : TyI := ⟨1, 4, false, [.lit .i32 0], .int .i32, none⟩
theorem ok286 : TyOK Try.prog 286 y286 := tyN (infoOf Try.type286) Try.underlying286 rfl
def y287 : TyI := ⟨1, 4, false, [.lit .i32 0], .int .i32, none⟩
theorem ok287 : TyOK Try.prog 287 y287 := tyN (infoOf Try.type287) Try.underlying287 rfl
def y288 : TyI := ⟨11, 48, true, [.lit .u64 0, .lit .u64 0, .lit .u32 0, .lit .u8 0, .lit .u8 0, .lit .u8 0, .lit .u8 0, .val .nilFunc, .val (.pointer none), .lit .i32 0, .lit .i32 0], .st [(0, 12), (1, 12), (2, 34), (3, 282), (4, 5), (5, 5), (6, 283), (7, 284), (8, 285), (9, 286), (10, 287)], none⟩
theorem ok288 : TyOK Try.prog 288 y288 := tyN (infoOf Try.type288) Try.underlying288 (descSt (by kernel_rfl))
def y289 : TyI := ⟨11, 48, true, [.lit .u64 0, .lit .u64 0, .lit .u32 0, .lit .u8 0, .lit .u8 0, .lit .u8 0, .lit .u8 0, .val .nilFunc, .val (.pointer none), .lit .i32 0, .lit .i32 0], .st [(0, 12), (1, 12), (2, 34), (3, 282), (4, 5), (5, 5), (6, 283), (7, 284), (8, 285), (9, 286), (10, 287)], none⟩
theorem ok289 : TyOK Try.prog 289 y289 := tyN (infoOf Try.type289) Try.underlying289 (descSt (by kernel_rfl))
def tab : Tab := [(2, y2), (3, y3), (4, y4), (5, y5), (6, y6), (7, y7), (8, y8), (9, y9), (10, y10), (11, y11), (12, y12), (13, y13), (14, y14), (15, y15), (16, y16), (17, y17), (18, y18), (19, y19), (20, y20), (21, y21), (22, y22), (23, y23), (27, y27), (28, y28), (30, y30), (34, y34), (35, y35), (36, y36), (37, y37), (38, y38), (39, y39), (40, y40), (42, y42), (44, y44), (45, y45), (52, y52), (53, y53), (54, y54), (55, y55), (56, y56), (57, y57), (58, y58), (64, y64), (73, y73), (74, y74), (76, y76), (77, y77), (81, y81), (84, y84), (87, y87), (88, y88), (90, y90), (91, y91), (94, y94), (95, y95), (102, y102), (106, y106), (107, y107), (108, y108), (109, y109), (118, y118), (119, y119), (123, y123), (124, y124), (125, y125), (129, y129), (133, y133), (134, y134), (135, y135), (139, y139), (140, y140), (143, y143), (144, y144), (147, y147), (152, y152), (157, y157), (158, y158), (159, y159), (178, y178), (180, y180), (181, y181), (183, y183), (186, y186), (192, y192), (193, y193), (204, y204), (205, y205), (217, y217), (227, y227), (228, y228), (241, y241), (242, y242), (250, y250), (251, y251), (256, y256), (257, y257), (271, y271), (272, y272), (277, y277), (278, y278), (282, y282), (283, y283), (285, y285), (286, y286), (287, y287), (288, y288), (289, y289)]
def AllOK : Tab → Prop
  | [] => True
  | p :: l => TyOK Try.prog p.1 p.2 ∧ AllOK l
theorem all_ok : ∀ (l : Tab), AllOK l → ∀ t i, List.lookup t l = some i → TyOK Try.prog t i
  | [], _, t, i, h => by simp at h
  | (d, v) :: l, hp, t, i, h => by
    rw [lookup_cons] at h
    by_cases hd : t = d
    · simp [hd] at h; subst h hd; exact hp.1
    · simp [hd] at h; exact all_ok l hp.2 t i h
theorem tab_ok : TabOK Try.prog tab := all_ok tab ⟨ok2, ok3, ok4, ok5, ok6, ok7, ok8, ok9, ok10, ok11, ok12, ok13, ok14, ok15, ok16, ok17, ok18, ok19, ok20, ok21, ok22, ok23, ok27, ok28, ok30, ok34, ok35, ok36, ok37, ok38, ok39, ok40, ok42, ok44, ok45, ok52, ok53, ok54, ok55, ok56, ok57, ok58, ok64, ok73, ok74, ok76, ok77, ok81, ok84, ok87, ok88, ok90, ok91, ok94, ok95, ok102, ok106, ok107, ok108, ok109, ok118, ok119, ok123, ok124, ok125, ok129, ok133, ok134, ok135, ok139, ok140, ok143, ok144, ok147, ok152, ok157, ok158, ok159, ok178, ok180, ok181, ok183, ok186, ok192, ok193, ok204, ok205, ok217, ok227, ok228, ok241, ok242, ok250, ok251, ok256, ok257, ok271, ok272, ok277, ok278, ok282, ok283, ok285, ok286, ok287, ok288, ok289, trivial⟩
noncomputable def fnL : List (Nat × Func) := [(2, Try.f2), (3, Try.f3), (4, Try.f4), (5, Try.f5), (6, Try.f6), (7, Try.f7), (8, Try.f8), (9, Try.f9), (10, Try.f10), (11, Try.f11), (12, Try.f12), (13, Try.f13), (14, Try.f14), (15, Try.f15), (16, Try.f16), (17, Try.f17), (18, Try.f18), (19, Try.f19), (20, Try.f20), (21, Try.f21), (22, Try.f22), (23, Try.f23), (24, Try.f24), (25, Try.f25), (26, Try.f26), (27, Try.f27), (28, Try.f28), (29, Try.f29), (30, Try.f30), (31, Try.f31), (32, Try.f32), (33, Try.f33), (34, Try.f34), (35, Try.f35), (36, Try.f36), (37, Try.f37), (38, Try.f38), (39, Try.f39), (40, Try.f40), (41, Try.f41), (42, Try.f42), (43, Try.f43), (44, Try.f44), (45, Try.f45), (46, Try.f46), (47, Try.f47), (48, Try.f48), (49, Try.f49), (50, Try.f50), (51, Try.f51), (52, Try.f52), (53, Try.f53), (54, Try.f54), (55, Try.f55), (56, Try.f56), (57, Try.f57), (58, Try.f58), (59, Try.f59), (60, Try.f60), (61, Try.f61), (62, Try.f62), (63, Try.f63), (64, Try.f64), (65, Try.f65), (66, Try.f66), (67, Try.f67), (68, Try.f68), (69, Try.f69), (70, Try.f70), (71, Try.f71), (72, Try.f72), (73, Try.f73), (74, Try.f74), (75, Try.f75), (76, Try.f76), (77, Try.f77), (78, Try.f78), (79, Try.f79), (80, Try.f80), (81, Try.f81), (82, Try.f82), (83, Try.f83), (84, Try.f84), (85, Try.f85), (86, Try.f86), (87, Try.f87), (88, Try.f88), (89, Try.f89), (90, Try.f90), (91, Try.f91), (92, Try.f92), (93, Try.f93), (94, Try.f94), (95, Try.f95), (96, Try.f96), (97, Try.f97), (98, Try.f98), (99, Try.f99), (100, Try.f100), (101, Try.f101), (102, Try.f102), (103, Try.f103), (104, Try.f104), (105, Try.f105), (106, Try.f106), (107, Try.f107), (108, Try.f108), (109, Try.f109), (110, Try.f110), (111, Try.f111), (112, Try.f112), (113, Try.f113), (114, Try.f114), (115, Try.f115), (116, Try.f116), (117, Try.f117), (118, Try.f118), (119, Try.f119), (120, Try.f120), (121, Try.f121), (122, Try.f122), (123, Try.f123), (124, Try.f124), (125, Try.f125), (126, Try.f126), (127, Try.f127), (128, Try.f128), (129, Try.f129), (130, Try.f130), (131, Try.f131), (132, Try.f132), (133, Try.f133), (134, Try.f134), (135, Try.f135), (136, Try.f136), (137, Try.f137), (138, Try.f138), (139, Try.f139), (140, Try.f140), (141, Try.f141), (142, Try.f142), (143, Try.f143), (144, Try.f144), (145, Try.f145), (146, Try.f146), (147, Try.f147), (148, Try.f148), (149, Try.f149), (150, Try.f150), (151, Try.f151), (152, Try.f152), (153, Try.f153), (154, Try.f154), (155, Try.f155), (156, Try.f156), (157, Try.f157), (158, Try.f158), (159, Try.f159), (160, Try.f160), (161, Try.f161), (162, Try.f162), (163, Try.f163), (164, Try.f164), (165, Try.f165), (166, Try.f166), (167, Try.f167), (168, Try.f168), (169, Try.f169), (170, Try.f170), (171, Try.f171)]
noncomputable def fns (f : FuncId) : Option Func := List.lookup f fnL
def FnOK (f : Nat) (fn : Func) : Prop := Try.prog.funcs[f]? = some fn ∧ ∀ args w, (callFunc f args).run Try.prog w = .ok (.enter f args) w
def AllFn : List (Nat × Func) → Prop
  | [] => True
  | p :: l => FnOK p.1 p.2 ∧ AllFn l
theorem allFn : ∀ (l : List (Nat × Func)), AllFn l → ∀ f fn, List.lookup f l = some fn → FnOK f fn
  | [], _, t, i, h => by simp at h
  | (d, v) :: l, hp, t, i, h => by
    rw [lookup_cons] at h
    by_cases hd : t = d
    · simp [hd] at h; subst h hd; exact hp.1
    · simp [hd] at h; exact allFn l hp.2 t i h
theorem fnOK {f : Nat} {fn : Func} (hf : Try.prog.funcs[f]? = some fn) (hn : (fn.name == "runtime.NumGoroutine") = false) (hb : fn.body.isNone = false) : FnOK f fn := ⟨hf, callFunc_ok hf hn hb⟩
theorem fns_ok : FnsOK Try.prog fns := allFn fnL ⟨fnOK Try.func2 (by kernel_rfl) (by kernel_rfl), fnOK Try.func3 (by kernel_rfl) (by kernel_rfl), fnOK Try.func4 (by kernel_rfl) (by kernel_rfl), fnOK Try.func5 (by kernel_rfl) (by kernel_rfl), fnOK Try.func6 (by kernel_rfl) (by kernel_rfl), fnOK Try.func7 (by kernel_rfl) (by kernel_rfl), fnOK Try.func8 (by kernel_rfl) (by kernel_rfl), fnOK Try.func9 (by kernel_rfl) (by kernel_rfl), fnOK Try.func10 (by kernel_rfl) (by kernel_rfl), fnOK Try.func11 (by kernel_rfl) (by kernel_rfl), fnOK Try.func12 (by kernel_rfl) (by kernel_rfl), fnOK Try.func13 (by kernel_rfl) (by kernel_rfl), fnOK Try.func14 (by kernel_rfl) (by kernel_rfl), fnOK Try.func15 (by kernel_rfl) (by kernel_rfl), fnOK Try.func16 (by kernel_rfl) (by kernel_rfl), fnOK Try.func17 (by kernel_rfl) (by kernel_rfl), fnOK Try.func18 (by kernel_rfl) (by kernel_rfl), fnOK Try.func19 (by kernel_rfl) (by kernel_rfl), fnOK Try.func20 (by kernel_rfl) (by kernel_rfl), fnOK Try.func21 (by kernel_rfl) (by kernel_rfl), fnOK Try.func22 (by kernel_rfl) (by kernel_rfl), fnOK Try.func23 (by kernel_rfl) (by kernel_rfl), fnOK Try.func24 (by kernel_rfl) (by kernel_rfl), fnOK Try.func25 (by kernel_rfl) (by kernel_rfl), fnOK Try.func26 (by kernel_rfl) (by kernel_rfl), fnOK Try.func27 (by kernel_rfl) (by kernel_rfl), fnOK Try.func28 (by kernel_rfl) (by kernel_rfl), fnOK Try.func29 (by kernel_rfl) (by kernel_rfl), fnOK Try.func30 (by kernel_rfl) (by kernel_rfl), fnOK Try.func31 (by kernel_rfl) (by kernel_rfl), fnOK Try.func32 (by kernel_rfl) (by kernel_rfl), fnOK Try.func33 (by kernel_rfl) (by kernel_rfl), fnOK Try.func34 (by kernel_rfl) (by kernel_rfl), fnOK Try.func35 (by kernel_rfl) (by kernel_rfl), fnOK Try.func36 (by kernel_rfl) (by kernel_rfl), fnOK Try.func37 (by kernel_rfl) (by kernel_rfl), fnOK Try.func38 (by kernel_rfl) (by kernel_rfl), fnOK Try.func39 (by kernel_rfl) (by kernel_rfl), fnOK Try.func40 (by kernel_rfl) (by kernel_rfl), fnOK Try.func41 (by kernel_rfl) (by kernel_rfl), fnOK Try.func42 (by kernel_rfl) (by kernel_rfl), fnOK Try.func43 (by kernel_rfl) (by kernel_rfl), fnOK Try.func44 (by kernel_rfl) (by kernel_rfl), fnOK Try.func45 (by kernel_rfl) (by kernel_rfl), fnOK Try.func46 (by kernel_rfl) (by kernel_rfl), fnOK Try.func47 (by kernel_rfl) (by kernel_rfl), fnOK Try.func48 (by kernel_rfl) (by kernel_rfl), fnOK Try.func49 (by kernel_rfl) (by kernel_rfl), fnOK Try.func50 (by kernel_rfl) (by kernel_rfl), fnOK Try.func51 (by kernel_rfl) (by kernel_rfl), fnOK Try.func52 (by kernel_rfl) (by kernel_rfl), fnOK Try.func53 (by kernel_rfl) (by kernel_rfl), fnOK Try.func54 (by kernel_rfl) (by kernel_rfl), fnOK Try.func55 (by kernel_rfl) (by kernel_rfl), fnOK Try.func56 (by kernel_rfl) (by kernel_rfl), fnOK Try.func57 (by kernel_rfl) (by kernel_rfl), fnOK Try.func58 (by kernel_rfl) (by kernel_rfl), fnOK Try.func59 (by kernel_rfl) (by kernel_rfl), fnOK Try.func60 (by kernel_rfl) (by kernel_rfl), fnOK Try.func61 (by kernel_rfl) (by kernel_rfl), fnOK Try.func62 (by kernel_rfl) (by kernel_rfl), fnOK Try.func63 (by kernel_rfl) (by kernel_rfl), fnOK Try.func64 (by kernel_rfl) (by kernel_rfl), fnOK Try.func65 (by kernel_rfl) (by kernel_rfl), fnOK Try.func66 (by kernel_rfl) (by kernel_rfl), fnOK Try.func67 (by kernel_rfl) (by kernel_rfl), fnOK Try.func68 (by kernel_rfl) (by kernel_rfl), fnOK Try.func69 (by kernel_rfl) (by kernel_rfl), fnOK Try.func70 (by kernel_rfl) (by kernel_rfl), fnOK Try.func71 (by kernel_rfl) (by kernel_rfl), fnOK Try.func72 (by kernel_rfl) (by kernel_rfl), fnOK Try.func73 (by kernel_rfl) (by kernel_rfl), fnOK Try.func74 (by kernel_rfl) (by kernel_rfl), fnOK Try.func75 (by kernel_rfl) (by kernel_rfl), fnOK Try.func76 (by kernel_rfl) (by kernel_rfl), fnOK Try.func77 (by kernel_rfl) (by kernel_rfl), fnOK Try.func78 (by kernel_rfl) (by kernel_rfl), fnOK Try.func79 (by kernel_rfl) (by kernel_rfl), fnOK Try.func80 (by kernel_rfl) (by kernel_rfl), fnOK Try.func81 (by kernel_rfl) (by kernel_rfl), fnOK Try.func82 (by kernel_rfl) (by kernel_rfl), fnOK Try.func83 (by kernel_rfl) (by kernel_rfl), fnOK Try.func84 (by kernel_rfl) (by kernel_rfl), fnOK Try.func85 (by kernel_rfl) (by kernel_rfl), fnOK Try.func86 (by kernel_rfl) (by kernel_rfl), fnOK Try.func87 (by kernel_rfl) (by kernel_rfl), fnOK Try.func88 (by kernel_rfl) (by kernel_rfl), fnOK Try.func89 (by kernel_rfl) (by kernel_rfl), fnOK Try.func90 (by kernel_rfl) (by kernel_rfl), fnOK Try.func91 (by kernel_rfl) (by kernel_rfl), fnOK Try.func92 (by kernel_rfl) (by kernel_rfl), fnOK Try.func93 (by kernel_rfl) (by kernel_rfl), fnOK Try.func94 (by kernel_rfl) (by kernel_rfl), fnOK Try.func95 (by kernel_rfl) (by kernel_rfl), fnOK Try.func96 (by kernel_rfl) (by kernel_rfl), fnOK Try.func97 (by kernel_rfl) (by kernel_rfl), fnOK Try.func98 (by kernel_rfl) (by kernel_rfl), fnOK Try.func99 (by kernel_rfl) (by kernel_rfl), fnOK Try.func100 (by kernel_rfl) (by kernel_rfl), fnOK Try.func101 (by kernel_rfl) (by kernel_rfl), fnOK Try.func102 (by kernel_rfl) (by kernel_rfl), fnOK Try.func103 (by kernel_rfl) (by kernel_rfl), fnOK Try.func104 (by kernel_rfl) (by kernel_rfl), fnOK Try.func105 (by kernel_rfl) (by kernel_rfl), fnOK Try.func106 (by kernel_rfl) (by kernel_rfl), fnOK Try.func107 (by kernel_rfl) (by kernel_rfl), fnOK Try.func108 (by kernel_rfl) (by kernel_rfl), fnOK Try.func109 (by kernel_rfl) (by kernel_rfl), fnOK Try.func110 (by kernel_rfl) (by kernel_rfl), fnOK Try.func111 (by kernel_rfl) (by kernel_rfl), fnOK Try.func112 (by kernel_rfl) (by kernel_rfl), fnOK Try.func113 (by kernel_rfl) (by kernel_rfl), fnOK Try.func114 (by kernel_rfl) (by kernel_rfl), fnOK Try.func115 (by kernel_rfl) (by kernel_rfl), fnOK Try.func116 (by kernel_rfl) (by kernel_rfl), fnOK Try.func117 (by kernel_rfl) (by kernel_rfl), fnOK Try.func118 (by kernel_rfl) (by kernel_rfl), fnOK Try.func119 (by kernel_rfl) (by kernel_rfl), fnOK Try.func120 (by kernel_rfl) (by kernel_rfl), fnOK Try.func121 (by kernel_rfl) (by kernel_rfl), fnOK Try.func122 (by kernel_rfl) (by kernel_rfl), fnOK Try.func123 (by kernel_rfl) (by kernel_rfl), fnOK Try.func124 (by kernel_rfl) (by kernel_rfl), fnOK Try.func125 (by kernel_rfl) (by kernel_rfl), fnOK Try.func126 (by kernel_rfl) (by kernel_rfl), fnOK Try.func127 (by kernel_rfl) (by kernel_rfl), fnOK Try.func128 (by kernel_rfl) (by kernel_rfl), fnOK Try.func129 (by kernel_rfl) (by kernel_rfl), fnOK Try.func130 (by kernel_rfl) (by kernel_rfl), fnOK Try.func131 (by kernel_rfl) (by kernel_rfl), fnOK Try.func132 (by kernel_rfl) (by kernel_rfl), fnOK Try.func133 (by kernel_rfl) (by kernel_rfl), fnOK Try.func134 (by kernel_rfl) (by kernel_rfl), fnOK Try.func135 (by kernel_rfl) (by kernel_rfl), fnOK Try.func136 (by kernel_rfl) (by kernel_rfl), fnOK Try.func137 (by kernel_rfl) (by kernel_rfl), fnOK Try.func138 (by kernel_rfl) (by kernel_rfl), fnOK Try.func139 (by kernel_rfl) (by kernel_rfl), fnOK Try.func140 (by kernel_rfl) (by kernel_rfl), fnOK Try.func141 (by kernel_rfl) (by kernel_rfl), fnOK Try.func142 (by kernel_rfl) (by kernel_rfl), fnOK Try.func143 (by kernel_rfl) (by kernel_rfl), fnOK Try.func144 (by kernel_rfl) (by kernel_rfl), fnOK Try.func145 (by kernel_rfl) (by kernel_rfl), fnOK Try.func146 (by kernel_rfl) (by kernel_rfl), fnOK Try.func147 (by kernel_rfl) (by kernel_rfl), fnOK Try.func148 (by kernel_rfl) (by kernel_rfl), fnOK Try.func149 (by kernel_rfl) (by kernel_rfl), fnOK Try.func150 (by kernel_rfl) (by kernel_rfl), fnOK Try.func151 (by kernel_rfl) (by kernel_rfl), fnOK Try.func152 (by kernel_rfl) (by kernel_rfl), fnOK Try.func153 (by kernel_rfl) (by kernel_rfl), fnOK Try.func154 (by kernel_rfl) (by kernel_rfl), fnOK Try.func155 (by kernel_rfl) (by kernel_rfl), fnOK Try.func156 (by kernel_rfl) (by kernel_rfl), fnOK Try.func157 (by kernel_rfl) (by kernel_rfl), fnOK Try.func158 (by kernel_rfl) (by kernel_rfl), fnOK Try.func159 (by kernel_rfl) (by kernel_rfl), fnOK Try.func160 (by kernel_rfl) (by kernel_rfl), fnOK Try.func161 (by kernel_rfl) (by kernel_rfl), fnOK Try.func162 (by kernel_rfl) (by kernel_rfl), fnOK Try.func163 (by kernel_rfl) (by kernel_rfl), fnOK Try.func164 (by kernel_rfl) (by kernel_rfl), fnOK Try.func165 (by kernel_rfl) (by kernel_rfl), fnOK Try.func166 (by kernel_rfl) (by kernel_rfl), fnOK Try.func167 (by kernel_rfl) (by kernel_rfl), fnOK Try.func168 (by kernel_rfl) (by kernel_rfl), fnOK Try.func169 (by kernel_rfl) (by kernel_rfl), fnOK Try.func170 (by kernel_rfl) (by kernel_rfl), fnOK Try.func171 (by kernel_rfl) (by kernel_rfl), trivial⟩
theorem mixed : Try.prog.follows .mixedOrders = true := by kernel_rfl
end Sx
end Go.Proofs.Ytlndkfcnfhkbkaa
