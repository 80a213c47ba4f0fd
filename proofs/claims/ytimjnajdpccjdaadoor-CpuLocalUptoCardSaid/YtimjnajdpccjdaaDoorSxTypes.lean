/- The types of the program, for the symbolic executor. No condition. (Printed by wip/mktab.py.) -/
import Derived.Test.YtimjnajdpccjdaaDoorSxD
import Derived.Test.YtimjnajdpccjdaaDoorChecked
namespace Go.Proofs.YtimjnajdpccjdaaDoor
set_option linter.unusedVariables false
set_option linter.unusedSimpArgs false
open Go.RowKit
set_option maxRecDepth 100000
namespace Sx
theorem tyN {P : Program} {t : TypeId} {i : TyI} {it : TypeInfo} {d : TypeDesc} (h1 : P.info? t = some it) (h7 : P.underlying t = some d) (h9 : DescOK d i.d) (h2 : it.size = i.size := by kernel_rfl) (hb : it.bytes = i.bytes := by kernel_rfl) (h3 : it.zero = some (it.zero.getD undef) := by kernel_rfl) (h4 : (it.zero.getD undef).cells.toList = cellsL Num.zero i.zero := by kernel_rfl) (h5 : it.zero.getD undef = (if i.agg then .agg (it.zero.getD undef).cells else (it.zero.getD undef).cells.toList.headD undef) := by kernel_rfl) (h6 : plainL i.zero = true := by kernel_rfl) (h8 : isAggD d = i.agg := by kernel_rfl) (g : i.flat ≠ none → P.eqGuardType P.depth t = false := by exact fun h => absurd rfl h) (f : ∀ ks, i.flat = some ks → isAggT P t = true ∧ ∃ n, flatAt P n t = some ks ∧ n ≤ Op.maxDepth := by exact fun ks h => nomatch h) : TyOK P t i :=
  ⟨⟨it, it.zero.getD undef, h1, h2, hb, h3, h4, h5⟩, h6, ⟨d, h7, h8, h9⟩, g, f⟩
theorem descSt {fs : Array Field} {l : List (Nat × TypeId)} (h : fs.toList.map (fun f => (f.offset, f.type)) = l) : DescOK (.struct fs) (.st l) := h
theorem infoOf {t : TypeId} {it : TypeInfo} (h : Tryd.prog.types[t]? = some it) : Tryd.prog.info? t = some it := by
  unfold Tables.info?
  rw [if_pos (Array.getElem?_eq_some_iff.1 h).1]; exact h
def y2 : TyI := ⟨1, 8, false, [.lit .i64 0], .int .i64, none⟩
theorem ok2 : TyOK Tryd.prog 2 y2 := tyN (infoOf Tryd.type2) Tryd.underlying2 rfl
def y3 : TyI := ⟨1, 8, false, [.lit .i64 0], .int .i64, none⟩
theorem ok3 : TyOK Tryd.prog 3 y3 := tyN (infoOf Tryd.type3) Tryd.underlying3 rfl
def y4 : TyI := ⟨1, 1, false, [.litb false], .bool, none⟩
theorem ok4 : TyOK Tryd.prog 4 y4 := tyN (infoOf Tryd.type4) Tryd.underlying4 trivial
def y5 : TyI := ⟨1, 1, false, [.lit .u8 0], .int .u8, none⟩
theorem ok5 : TyOK Tryd.prog 5 y5 := tyN (infoOf Tryd.type5) Tryd.underlying5 rfl
def y6 : TyI := ⟨1, 1, false, [.lit .u8 0], .int .u8, none⟩
theorem ok6 : TyOK Tryd.prog 6 y6 := tyN (infoOf Tryd.type6) Tryd.underlying6 rfl
def y7 : TyI := ⟨4, 24, true, [.lit .i64 0, .lit .i64 0, .litb false, .lit .u8 0], .st [(0, 2), (1, 3), (2, 4), (3, 6)], some (List.replicate 1 (some .i64) ++ List.replicate 1 (some .i64) ++ List.replicate 1 (none) ++ List.replicate 1 (some .u8))⟩
theorem ok7 : TyOK Tryd.prog 7 y7 := tyN (infoOf Tryd.type7) Tryd.underlying7 (descSt (by kernel_rfl)) (g := fun _ => by kernel_rfl) (f := fun ks h => by cases h; exact ⟨by kernel_rfl, 8, by kernel_rfl, by decide⟩)
def y8 : TyI := ⟨4, 24, true, [.lit .i64 0, .lit .i64 0, .litb false, .lit .u8 0], .st [(0, 2), (1, 3), (2, 4), (3, 6)], some (List.replicate 1 (some .i64) ++ List.replicate 1 (some .i64) ++ List.replicate 1 (none) ++ List.replicate 1 (some .u8))⟩
theorem ok8 : TyOK Tryd.prog 8 y8 := tyN (infoOf Tryd.type8) Tryd.underlying8 (descSt (by kernel_rfl)) (g := fun _ => by kernel_rfl) (f := fun ks h => by cases h; exact ⟨by kernel_rfl, 8, by kernel_rfl, by decide⟩)
def y9 : TyI := ⟨1, 16, false, [.str ⟨#[]⟩], .str, none⟩
theorem ok9 : TyOK Tryd.prog 9 y9 := tyN (infoOf Tryd.type9) Tryd.underlying9 trivial
def y10 : TyI := ⟨1, 16, false, [.str ⟨#[]⟩], .str, none⟩
theorem ok10 : TyOK Tryd.prog 10 y10 := tyN (infoOf Tryd.type10) Tryd.underlying10 trivial
def y12 : TyI := ⟨1, 8, false, [.lit .u64 0], .int .u64, none⟩
theorem ok12 : TyOK Tryd.prog 12 y12 := tyN (infoOf Tryd.type12) Tryd.underlying12 rfl
def y15 : TyI := ⟨1, 8, false, [.val (.pointer none)], .ptr 271, none⟩
theorem ok15 : TyOK Tryd.prog 15 y15 := tyN (infoOf Tryd.type15) Tryd.underlying15 rfl
def y16 : TyI := ⟨1, 8, false, [.val (.pointer none)], .ptr 274, none⟩
theorem ok16 : TyOK Tryd.prog 16 y16 := tyN (infoOf Tryd.type16) Tryd.underlying16 rfl
def y17 : TyI := ⟨1, 8, false, [.val (.pointer none)], .ptr 282, none⟩
theorem ok17 : TyOK Tryd.prog 17 y17 := tyN (infoOf Tryd.type17) Tryd.underlying17 rfl
def y18 : TyI := ⟨1, 8, true, [.val (.pointer none)], .st [(0, 17)], none⟩
theorem ok18 : TyOK Tryd.prog 18 y18 := tyN (infoOf Tryd.type18) Tryd.underlying18 (descSt (by kernel_rfl))
def y20 : TyI := ⟨1, 16, false, [.val .nilIface], .other, none⟩
theorem ok20 : TyOK Tryd.prog 20 y20 := tyN (infoOf Tryd.type20) Tryd.underlying20 trivial
def y21 : TyI := ⟨1, 4, false, [.lit .i32 0], .int .i32, none⟩
theorem ok21 : TyOK Tryd.prog 21 y21 := tyN (infoOf Tryd.type21) Tryd.underlying21 rfl
def y22 : TyI := ⟨1, 24, false, [.val (.slice none 0 0)], .sl 115, none⟩
theorem ok22 : TyOK Tryd.prog 22 y22 := tyN (infoOf Tryd.type22) Tryd.underlying22 rfl
def y23 : TyI := ⟨1, 4, false, [.lit .u32 0], .int .u32, none⟩
theorem ok23 : TyOK Tryd.prog 23 y23 := tyN (infoOf Tryd.type23) Tryd.underlying23 rfl
def y24 : TyI := ⟨15, 60, true, [.ints .u32 15 (List.replicate 15 0)], .arr 15 23, some (List.replicate 15 (some .u32))⟩
theorem ok24 : TyOK Tryd.prog 24 y24 := tyN (infoOf Tryd.type24) Tryd.underlying24 ⟨rfl, rfl⟩ (g := fun _ => by kernel_rfl) (f := fun ks h => by cases h; exact ⟨by kernel_rfl, 8, by kernel_rfl, by decide⟩)
def y25 : TyI := ⟨19, 68, true, [.ints .u32 15 (List.replicate 15 0), .lit .u32 0, .litb false, .litb false, .litb false], .st [(0, 24), (15, 23), (16, 4), (17, 4), (18, 4)], some (List.replicate 15 (some .u32) ++ List.replicate 1 (some .u32) ++ List.replicate 1 (none) ++ List.replicate 1 (none) ++ List.replicate 1 (none))⟩
theorem ok25 : TyOK Tryd.prog 25 y25 := tyN (infoOf Tryd.type25) Tryd.underlying25 (descSt (by kernel_rfl)) (g := fun _ => by kernel_rfl) (f := fun ks h => by cases h; exact ⟨by kernel_rfl, 8, by kernel_rfl, by decide⟩)
def y26 : TyI := ⟨19, 68, true, [.ints .u32 15 (List.replicate 15 0), .lit .u32 0, .litb false, .litb false, .litb false], .st [(0, 24), (15, 23), (16, 4), (17, 4), (18, 4)], some (List.replicate 15 (some .u32) ++ List.replicate 1 (some .u32) ++ List.replicate 1 (none) ++ List.replicate 1 (none) ++ List.replicate 1 (none))⟩
theorem ok26 : TyOK Tryd.prog 26 y26 := tyN (infoOf Tryd.type26) Tryd.underlying26 (descSt (by kernel_rfl)) (g := fun _ => by kernel_rfl) (f := fun ks h => by cases h; exact ⟨by kernel_rfl, 8, by kernel_rfl, by decide⟩)
def y27 : TyI := ⟨23, 120, true, [.lit .i64 0, .lit .i64 0, .val (.slice none 0 0), .lit .i64 0, .ints .u32 15 (List.replicate 15 0), .lit .u32 0, .litb false, .litb false, .litb false], .st [(0, 3), (1, 3), (2, 22), (3, 3), (4, 26)], none⟩
theorem ok27 : TyOK Tryd.prog 27 y27 := tyN (infoOf Tryd.type27) Tryd.underlying27 (descSt (by kernel_rfl))
def y28 : TyI := ⟨23, 120, true, [.lit .i64 0, .lit .i64 0, .val (.slice none 0 0), .lit .i64 0, .ints .u32 15 (List.replicate 15 0), .lit .u32 0, .litb false, .litb false, .litb false], .st [(0, 3), (1, 3), (2, 22), (3, 3), (4, 26)], none⟩
theorem ok28 : TyOK Tryd.prog 28 y28 := tyN (infoOf Tryd.type28) Tryd.underlying28 (descSt (by kernel_rfl))
def y29 : TyI := ⟨1, 8, false, [.val (.pointer none)], .ptr 120, none⟩
theorem ok29 : TyOK Tryd.prog 29 y29 := tyN (infoOf Tryd.type29) Tryd.underlying29 rfl
def y33 : TyI := ⟨2, 16, true, [.litb false, .lit .i64 0], .st [(0, 4), (1, 3)], some (List.replicate 1 (none) ++ List.replicate 1 (some .i64))⟩
theorem ok33 : TyOK Tryd.prog 33 y33 := tyN (infoOf Tryd.type33) Tryd.underlying33 (descSt (by kernel_rfl)) (g := fun _ => by kernel_rfl) (f := fun ks h => by cases h; exact ⟨by kernel_rfl, 8, by kernel_rfl, by decide⟩)
def y34 : TyI := ⟨2, 16, true, [.litb false, .lit .i64 0], .st [(0, 4), (1, 3)], some (List.replicate 1 (none) ++ List.replicate 1 (some .i64))⟩
theorem ok34 : TyOK Tryd.prog 34 y34 := tyN (infoOf Tryd.type34) Tryd.underlying34 (descSt (by kernel_rfl)) (g := fun _ => by kernel_rfl) (f := fun ks h => by cases h; exact ⟨by kernel_rfl, 8, by kernel_rfl, by decide⟩)
def y35 : TyI := ⟨3, 24, true, [.litb false, .lit .i64 0, .lit .i64 0], .st [(0, 34), (2, 3)], some (List.replicate 1 (none) ++ List.replicate 1 (some .i64) ++ List.replicate 1 (some .i64))⟩
theorem ok35 : TyOK Tryd.prog 35 y35 := tyN (infoOf Tryd.type35) Tryd.underlying35 (descSt (by kernel_rfl)) (g := fun _ => by kernel_rfl) (f := fun ks h => by cases h; exact ⟨by kernel_rfl, 8, by kernel_rfl, by decide⟩)
def y36 : TyI := ⟨3, 24, true, [.litb false, .lit .i64 0, .lit .i64 0], .st [(0, 34), (2, 3)], some (List.replicate 1 (none) ++ List.replicate 1 (some .i64) ++ List.replicate 1 (some .i64))⟩
theorem ok36 : TyOK Tryd.prog 36 y36 := tyN (infoOf Tryd.type36) Tryd.underlying36 (descSt (by kernel_rfl)) (g := fun _ => by kernel_rfl) (f := fun ks h => by cases h; exact ⟨by kernel_rfl, 8, by kernel_rfl, by decide⟩)
def y39 : TyI := ⟨1, 8, false, [.lit .i64 0], .int .i64, none⟩
theorem ok39 : TyOK Tryd.prog 39 y39 := tyN (infoOf Tryd.type39) Tryd.underlying39 rfl
def y40 : TyI := ⟨1, 8, false, [.lit .i64 0], .int .i64, none⟩
theorem ok40 : TyOK Tryd.prog 40 y40 := tyN (infoOf Tryd.type40) Tryd.underlying40 rfl
def y41 : TyI := ⟨2, 16, true, [.lit .i64 0, .lit .u32 0], .st [(0, 40), (1, 23)], some (List.replicate 1 (some .i64) ++ List.replicate 1 (some .u32))⟩
theorem ok41 : TyOK Tryd.prog 41 y41 := tyN (infoOf Tryd.type41) Tryd.underlying41 (descSt (by kernel_rfl)) (g := fun _ => by kernel_rfl) (f := fun ks h => by cases h; exact ⟨by kernel_rfl, 8, by kernel_rfl, by decide⟩)
def y42 : TyI := ⟨2, 16, true, [.lit .i64 0, .lit .u32 0], .st [(0, 40), (1, 23)], some (List.replicate 1 (some .i64) ++ List.replicate 1 (some .u32))⟩
theorem ok42 : TyOK Tryd.prog 42 y42 := tyN (infoOf Tryd.type42) Tryd.underlying42 (descSt (by kernel_rfl)) (g := fun _ => by kernel_rfl) (f := fun ks h => by cases h; exact ⟨by kernel_rfl, 8, by kernel_rfl, by decide⟩)
def y47 : TyI := ⟨1, 8, false, [.lit .i64 0], .int .i64, none⟩
theorem ok47 : TyOK Tryd.prog 47 y47 := tyN (infoOf Tryd.type47) Tryd.underlying47 rfl
def y48 : TyI := ⟨1, 8, false, [.lit .i64 0], .int .i64, none⟩
theorem ok48 : TyOK Tryd.prog 48 y48 := tyN (infoOf Tryd.type48) Tryd.underlying48 rfl
def y49 : TyI := ⟨6, 48, true, [.lit .i64 0, .lit .i64 0, .lit .i64 0, .lit .i64 0, .lit .i64 0, .lit .i32 0], .st [(0, 47), (1, 48), (2, 3), (3, 3), (4, 3), (5, 21)], some (List.replicate 1 (some .i64) ++ List.replicate 1 (some .i64) ++ List.replicate 1 (some .i64) ++ List.replicate 1 (some .i64) ++ List.replicate 1 (some .i64) ++ List.replicate 1 (some .i32))⟩
theorem ok49 : TyOK Tryd.prog 49 y49 := tyN (infoOf Tryd.type49) Tryd.underlying49 (descSt (by kernel_rfl)) (g := fun _ => by kernel_rfl) (f := fun ks h => by cases h; exact ⟨by kernel_rfl, 8, by kernel_rfl, by decide⟩)
def y50 : TyI := ⟨6, 48, true, [.lit .i64 0, .lit .i64 0, .lit .i64 0, .lit .i64 0, .lit .i64 0, .lit .i32 0], .st [(0, 47), (1, 48), (2, 3), (3, 3), (4, 3), (5, 21)], some (List.replicate 1 (some .i64) ++ List.replicate 1 (some .i64) ++ List.replicate 1 (some .i64) ++ List.replicate 1 (some .i64) ++ List.replicate 1 (some .i64) ++ List.replicate 1 (some .i32))⟩
theorem ok50 : TyOK Tryd.prog 50 y50 := tyN (infoOf Tryd.type50) Tryd.underlying50 (descSt (by kernel_rfl)) (g := fun _ => by kernel_rfl) (f := fun ks h => by cases h; exact ⟨by kernel_rfl, 8, by kernel_rfl, by decide⟩)
def y51 : TyI := ⟨1, 8, false, [.lit .i64 0], .int .i64, none⟩
theorem ok51 : TyOK Tryd.prog 51 y51 := tyN (infoOf Tryd.type51) Tryd.underlying51 rfl
def y57 : TyI := ⟨1, 24, false, [.val (.slice none 0 0)], .sl 36, none⟩
theorem ok57 : TyOK Tryd.prog 57 y57 := tyN (infoOf Tryd.type57) Tryd.underlying57 rfl
def y58 : TyI := ⟨5, 56, true, [.val (.slice none 0 0), .litb false, .litb false, .lit .i64 0, .lit .i64 0], .st [(0, 57), (1, 4), (2, 36)], none⟩
theorem ok58 : TyOK Tryd.prog 58 y58 := tyN (infoOf Tryd.type58) Tryd.underlying58 (descSt (by kernel_rfl))
def y59 : TyI := ⟨5, 56, true, [.val (.slice none 0 0), .litb false, .litb false, .lit .i64 0, .lit .i64 0], .st [(0, 57), (1, 4), (2, 36)], none⟩
theorem ok59 : TyOK Tryd.prog 59 y59 := tyN (infoOf Tryd.type59) Tryd.underlying59 (descSt (by kernel_rfl))
def y102 : TyI := ⟨1, 24, false, [.val (.slice none 0 0)], .sl 23, none⟩
theorem ok102 : TyOK Tryd.prog 102 y102 := tyN (infoOf Tryd.type102) Tryd.underlying102 rfl
def y114 : TyI := ⟨4, 48, true, [.litb false, .lit .i64 0, .lit .i64 0, .val (.slice none 0 0)], .st [(0, 34), (2, 3), (3, 102)], none⟩
theorem ok114 : TyOK Tryd.prog 114 y114 := tyN (infoOf Tryd.type114) Tryd.underlying114 (descSt (by kernel_rfl))
def y115 : TyI := ⟨4, 48, true, [.litb false, .lit .i64 0, .lit .i64 0, .val (.slice none 0 0)], .st [(0, 34), (2, 3), (3, 102)], none⟩
theorem ok115 : TyOK Tryd.prog 115 y115 := tyN (infoOf Tryd.type115) Tryd.underlying115 (descSt (by kernel_rfl))
def y117 : TyI := ⟨1, 24, false, [.val (.slice none 0 0)], .sl 129, none⟩
theorem ok117 : TyOK Tryd.prog 117 y117 := tyN (infoOf Tryd.type117) Tryd.underlying117 rfl
def y119 : TyI := ⟨3, 56, true, [.val (.slice none 0 0), .val (.slice none 0 0), .lit .i64 0], .st [(0, 117), (1, 117), (2, 2)], none⟩
theorem ok119 : TyOK Tryd.prog 119 y119 := tyN (infoOf Tryd.type119) Tryd.underlying119 (descSt (by kernel_rfl))
def y120 : TyI := ⟨3, 56, true, [.val (.slice none 0 0), .val (.slice none 0 0), .lit .i64 0], .st [(0, 117), (1, 117), (2, 2)], none⟩
theorem ok120 : TyOK Tryd.prog 120 y120 := tyN (infoOf Tryd.type120) Tryd.underlying120 (descSt (by kernel_rfl))
def y125 : TyI := ⟨1, 8, false, [.val (.pointer none)], .ptr 127, none⟩
theorem ok125 : TyOK Tryd.prog 125 y125 := tyN (infoOf Tryd.type125) Tryd.underlying125 rfl
def y126 : TyI := ⟨21, 88, true, [.val (.pointer none), .lit .i64 0, .ints .u32 15 (List.replicate 15 0), .lit .u32 0, .litb false, .litb false, .litb false], .st [(0, 29), (1, 3), (2, 26)], none⟩
theorem ok126 : TyOK Tryd.prog 126 y126 := tyN (infoOf Tryd.type126) Tryd.underlying126 (descSt (by kernel_rfl))
def y127 : TyI := ⟨21, 88, true, [.val (.pointer none), .lit .i64 0, .ints .u32 15 (List.replicate 15 0), .lit .u32 0, .litb false, .litb false, .litb false], .st [(0, 29), (1, 3), (2, 26)], none⟩
theorem ok127 : TyOK Tryd.prog 127 y127 := tyN (infoOf Tryd.type127) Tryd.underlying127 (descSt (by kernel_rfl))
def y129 : TyI := ⟨1, 8, false, [.val (.pointer none)], .ptr 155, none⟩
theorem ok129 : TyOK Tryd.prog 129 y129 := tyN (infoOf Tryd.type129) Tryd.underlying129 rfl
def y136 : TyI := ⟨1, 8, false, [.val (.pointer none)], .ptr 23, none⟩
theorem ok136 : TyOK Tryd.prog 136 y136 := tyN (infoOf Tryd.type136) Tryd.underlying136 rfl
def y154 : TyI := ⟨1024, 4096, true, [.ints .u32 1024 (List.replicate 1024 0)], .arr 1024 23, some (List.replicate 1024 (some .u32))⟩
theorem ok154 : TyOK Tryd.prog 154 y154 := tyN (infoOf Tryd.type154) Tryd.underlying154 ⟨rfl, rfl⟩ (g := fun _ => by kernel_rfl) (f := fun ks h => by cases h; exact ⟨by kernel_rfl, 8, by kernel_rfl, by decide⟩)
def y155 : TyI := ⟨1024, 4096, true, [.ints .u32 1024 (List.replicate 1024 0)], .arr 1024 23, some (List.replicate 1024 (some .u32))⟩
theorem ok155 : TyOK Tryd.prog 155 y155 := tyN (infoOf Tryd.type155) Tryd.underlying155 ⟨rfl, rfl⟩ (g := fun _ => by kernel_rfl) (f := fun ks h => by cases h; exact ⟨by kernel_rfl, 8, by kernel_rfl, by decide⟩)
def y183 : TyI := ⟨4, 24, true, [.litb false, .lit .i64 0, .litb false, .litb false], .st [(0, 34), (2, 4), (3, 4)], some (List.replicate 1 (none) ++ List.replicate 1 (some .i64) ++ List.replicate 1 (none) ++ List.replicate 1 (none))⟩
theorem ok183 : TyOK Tryd.prog 183 y183 := tyN (infoOf Tryd.type183) Tryd.underlying183 (descSt (by kernel_rfl)) (g := fun _ => by kernel_rfl) (f := fun ks h => by cases h; exact ⟨by kernel_rfl, 8, by kernel_rfl, by decide⟩)
def y184 : TyI := ⟨4, 24, true, [.litb false, .lit .i64 0, .litb false, .litb false], .st [(0, 34), (2, 4), (3, 4)], some (List.replicate 1 (none) ++ List.replicate 1 (some .i64) ++ List.replicate 1 (none) ++ List.replicate 1 (none))⟩
theorem ok184 : TyOK Tryd.prog 184 y184 := tyN (infoOf Tryd.type184) Tryd.underlying184 (descSt (by kernel_rfl)) (g := fun _ => by kernel_rfl) (f := fun ks h => by cases h; exact ⟨by kernel_rfl, 8, by kernel_rfl, by decide⟩)
def y189 : TyI := ⟨25, 200, true, [.ints .i64 25 (List.replicate 25 0)], .arr 25 3, some (List.replicate 25 (some .i64))⟩
theorem ok189 : TyOK Tryd.prog 189 y189 := tyN (infoOf Tryd.type189) Tryd.underlying189 ⟨rfl, rfl⟩ (g := fun _ => by kernel_rfl) (f := fun ks h => by cases h; exact ⟨by kernel_rfl, 8, by kernel_rfl, by decide⟩)
def y196 : TyI := ⟨2, 32, true, [.str ⟨#[]⟩, .str ⟨#[]⟩], .st [(0, 9), (1, 9)], none⟩
theorem ok196 : TyOK Tryd.prog 196 y196 := tyN (infoOf Tryd.type196) Tryd.underlying196 (descSt (by kernel_rfl))
def y197 : TyI := ⟨50, 800, true, [.str ⟨#[]⟩, .str ⟨#[]⟩, .str ⟨#[]⟩, .str ⟨#[]⟩, .str ⟨#[]⟩, .str ⟨#[]⟩, .str ⟨#[]⟩, .str ⟨#[]⟩, .str ⟨#[]⟩, .str ⟨#[]⟩, .str ⟨#[]⟩, .str ⟨#[]⟩, .str ⟨#[]⟩, .str ⟨#[]⟩, .str ⟨#[]⟩, .str ⟨#[]⟩, .str ⟨#[]⟩, .str ⟨#[]⟩, .str ⟨#[]⟩, .str ⟨#[]⟩, .str ⟨#[]⟩, .str ⟨#[]⟩, .str ⟨#[]⟩, .str ⟨#[]⟩, .str ⟨#[]⟩, .str ⟨#[]⟩, .str ⟨#[]⟩, .str ⟨#[]⟩, .str ⟨#[]⟩, .str ⟨#[]⟩, .str ⟨#[]⟩, .str ⟨#[]⟩, .str ⟨#[]⟩, .str ⟨#[]⟩, .str ⟨#[]⟩, .str ⟨#[]⟩, .str ⟨#[]⟩, .str ⟨#[]⟩, .str ⟨#[]⟩, .str ⟨#[]⟩, .str ⟨#[]⟩, .str ⟨#[]⟩, .str ⟨#[]⟩, .str ⟨#[]⟩, .str ⟨#[]⟩, .str ⟨#[]⟩, .str ⟨#[]⟩, .str ⟨#[]⟩, .str ⟨#[]⟩, .str ⟨#[]⟩], .arr 25 196, none⟩
theorem ok197 : TyOK Tryd.prog 197 y197 := tyN (infoOf Tryd.type197) Tryd.underlying197 ⟨rfl, rfl⟩
def y199 : TyI := ⟨1, 8, false, [.lit .u64 0], .int .u64, none⟩
theorem ok199 : TyOK Tryd.prog 199 y199 := tyN (infoOf Tryd.type199) Tryd.underlying199 rfl
def y200 : TyI := ⟨1, 24, false, [.val (.slice none 0 0)], .sl 204, none⟩
theorem ok200 : TyOK Tryd.prog 200 y200 := tyN (infoOf Tryd.type200) Tryd.underlying200 rfl
def y203 : TyI := ⟨5, 40, true, [.lit .i64 0, .lit .i64 0, .lit .i64 0, .lit .i64 0, .lit .i64 0], .st [(0, 2), (1, 2), (2, 2), (3, 3), (4, 3)], some (List.replicate 1 (some .i64) ++ List.replicate 1 (some .i64) ++ List.replicate 1 (some .i64) ++ List.replicate 1 (some .i64) ++ List.replicate 1 (some .i64))⟩
theorem ok203 : TyOK Tryd.prog 203 y203 := tyN (infoOf Tryd.type203) Tryd.underlying203 (descSt (by kernel_rfl)) (g := fun _ => by kernel_rfl) (f := fun ks h => by cases h; exact ⟨by kernel_rfl, 8, by kernel_rfl, by decide⟩)
def y204 : TyI := ⟨5, 40, true, [.lit .i64 0, .lit .i64 0, .lit .i64 0, .lit .i64 0, .lit .i64 0], .st [(0, 2), (1, 2), (2, 2), (3, 3), (4, 3)], some (List.replicate 1 (some .i64) ++ List.replicate 1 (some .i64) ++ List.replicate 1 (some .i64) ++ List.replicate 1 (some .i64) ++ List.replicate 1 (some .i64))⟩
theorem ok204 : TyOK Tryd.prog 204 y204 := tyN (infoOf Tryd.type204) Tryd.underlying204 (descSt (by kernel_rfl)) (g := fun _ => by kernel_rfl) (f := fun ks h => by cases h; exact ⟨by kernel_rfl, 8, by kernel_rfl, by decide⟩)
def y221 : TyI := ⟨1, 8, false, [.lit .u64 0], .int .u64, none⟩
theorem ok221 : TyOK Tryd.prog 221 y221 := tyN (infoOf Tryd.type221) Tryd.underlying221 rfl
def y267 : TyI := ⟨2, 8, true, [.litb false, .lit .u32 0], .st [(0, 4), (1, 23)], some (List.replicate 1 (none) ++ List.replicate 1 (some .u32))⟩
theorem ok267 : TyOK Tryd.prog 267 y267 := tyN (infoOf Tryd.type267) Tryd.underlying267 (descSt (by kernel_rfl)) (g := fun _ => by kernel_rfl) (f := fun ks h => by cases h; exact ⟨by kernel_rfl, 8, by kernel_rfl, by decide⟩)
def y268 : TyI := ⟨1, 24, false, [.val (.slice none 0 0)], .sl 267, none⟩
theorem ok268 : TyOK Tryd.prog 268 y268 := tyN (infoOf Tryd.type268) Tryd.underlying268 rfl
def y270 : TyI := ⟨4, 40, true, [.val (.pointer none), .val (.pointer none), .val (.pointer none), .str ⟨#[]⟩], .st [(0, 17), (1, 17), (2, 17), (3, 9)], none⟩
theorem ok270 : TyOK Tryd.prog 270 y270 := tyN (infoOf Tryd.type270) Tryd.underlying270 (descSt (by kernel_rfl))
def y271 : TyI := ⟨4, 40, true, [.val (.pointer none), .val (.pointer none), .val (.pointer none), .str ⟨#[]⟩], .st [(0, 17), (1, 17), (2, 17), (3, 9)], none⟩
theorem ok271 : TyOK Tryd.prog 271 y271 := tyN (infoOf Tryd.type271) Tryd.underlying271 (descSt (by kernel_rfl))
def y275 : TyI := ⟨1, 1, false, [.lit .u8 0], .int .u8, none⟩
theorem ok275 : TyOK Tryd.prog 275 y275 := tyN (infoOf Tryd.type275) Tryd.underlying275 rfl
def y276 : TyI := ⟨1, 1, false, [.lit .u8 0], .int .u8, none⟩
theorem ok276 : TyOK Tryd.prog 276 y276 := tyN (infoOf Tryd.type276) Tryd.underlying276 rfl
def y278 : TyI := ⟨1, 8, false, [.val (.pointer none)], .ptr 5, none⟩
theorem ok278 : TyOK Tryd.prog 278 y278 := tyN (infoOf Tryd.type278) Tryd.underlying278 rfl
def y279 : TyI := ⟨1, 4, false, [.lit .i32 0], .int .i32, none⟩
theorem ok279 : TyOK Tryd.prog 279 y279 := tyN (infoOf Tryd.type279) Tryd.underlying279 rfl
def y280 : TyI := ⟨1, 4, false, [.lit .i32 0], .int .i32, none⟩
theorem ok280 : TyOK Tryd.prog 280 y280 := tyN (infoOf Tryd.type280) Tryd.underlying280 rfl
def y281 : TyI := ⟨11, 48, true, [.lit .u64 0, .lit .u64 0, .lit .u32 0, .lit .u8 0, .lit .u8 0, .lit .u8 0, .lit .u8 0, .val .nilFunc, .val (.pointer none), .lit .i32 0, .lit .i32 0], .st [(0, 12), (1, 12), (2, 23), (3, 275), (4, 5), (5, 5), (6, 276), (7, 277), (8, 278), (9, 279), (10, 280)], none⟩
theorem ok281 : TyOK Tryd.prog 281 y281 := tyN (infoOf Tryd.type281) Tryd.underlying281 (descSt (by kernel_rfl))
def y282 : TyI := ⟨11, 48, true, [.lit .u64 0, .lit .u64 0, .lit .u32 0, .lit .u8 0, .lit .u8 0, .lit .u8 0, .lit .u8 0, .val .nilFunc, .val (.pointer none), .lit .i32 0, .lit .i32 0], .st [(0, 12), (1, 12), (2, 23), (3, 275), (4, 5), (5, 5), (6, 276), (7, 277), (8, 278), (9, 279), (10, 280)], none⟩
theorem ok282 : TyOK Tryd.prog 282 y282 := tyN (infoOf Tryd.type282) Tryd.underlying282 (descSt (by kernel_rfl))
def tab : Tab := [(2, y2), (3, y3), (4, y4), (5, y5), (6, y6), (7, y7), (8, y8), (9, y9), (10, y10), (12, y12), (15, y15), (16, y16), (17, y17), (18, y18), (20, y20), (21, y21), (22, y22), (23, y23), (24, y24), (25, y25), (26, y26), (27, y27), (28, y28), (29, y29), (33, y33), (34, y34), (35, y35), (36, y36), (39, y39), (40, y40), (41, y41), (42, y42), (47, y47), (48, y48), (49, y49), (50, y50), (51, y51), (57, y57), (58, y58), (59, y59), (102, y102), (114, y114), (115, y115), (117, y117), (119, y119), (120, y120), (125, y125), (126, y126), (127, y127), (129, y129), (136, y136), (154, y154), (155, y155), (183, y183), (184, y184), (189, y189), (196, y196), (197, y197), (199, y199), (200, y200), (203, y203), (204, y204), (221, y221), (267, y267), (268, y268), (270, y270), (271, y271), (275, y275), (276, y276), (278, y278), (279, y279), (280, y280), (281, y281), (282, y282)]
def AllOK : Tab → Prop
  | [] => True
  | p :: l => TyOK Tryd.prog p.1 p.2 ∧ AllOK l
theorem all_ok : ∀ (l : Tab), AllOK l → ∀ t i, List.lookup t l = some i → TyOK Tryd.prog t i
  | [], _, t, i, h => by simp at h
  | (d, v) :: l, hp, t, i, h => by
    rw [lookup_cons] at h
    by_cases hd : t = d
    · simp [hd] at h; subst h hd; exact hp.1
    · simp [hd] at h; exact all_ok l hp.2 t i h
theorem tab_ok : TabOK Tryd.prog tab := all_ok tab ⟨ok2, ok3, ok4, ok5, ok6, ok7, ok8, ok9, ok10, ok12, ok15, ok16, ok17, ok18, ok20, ok21, ok22, ok23, ok24, ok25, ok26, ok27, ok28, ok29, ok33, ok34, ok35, ok36, ok39, ok40, ok41, ok42, ok47, ok48, ok49, ok50, ok51, ok57, ok58, ok59, ok102, ok114, ok115, ok117, ok119, ok120, ok125, ok126, ok127, ok129, ok136, ok154, ok155, ok183, ok184, ok189, ok196, ok197, ok199, ok200, ok203, ok204, ok221, ok267, ok268, ok270, ok271, ok275, ok276, ok278, ok279, ok280, ok281, ok282, trivial⟩
noncomputable def fnL : List (Nat × Func) := [(4, Tryd.f4), (10, Tryd.f10), (11, Tryd.f11), (12, Tryd.f12), (13, Tryd.f13), (14, Tryd.f14), (15, Tryd.f15), (16, Tryd.f16), (17, Tryd.f17), (18, Tryd.f18), (19, Tryd.f19), (20, Tryd.f20), (21, Tryd.f21), (22, Tryd.f22), (23, Tryd.f23), (38, Tryd.f38), (50, Tryd.f50), (51, Tryd.f51), (52, Tryd.f52), (53, Tryd.f53), (54, Tryd.f54), (55, Tryd.f55), (56, Tryd.f56), (57, Tryd.f57), (58, Tryd.f58), (59, Tryd.f59), (60, Tryd.f60), (61, Tryd.f61), (62, Tryd.f62), (63, Tryd.f63), (64, Tryd.f64), (72, Tryd.f72), (90, Tryd.f90), (91, Tryd.f91), (92, Tryd.f92), (93, Tryd.f93), (94, Tryd.f94), (95, Tryd.f95), (96, Tryd.f96), (97, Tryd.f97), (98, Tryd.f98), (99, Tryd.f99), (100, Tryd.f100), (101, Tryd.f101), (102, Tryd.f102), (122, Tryd.f122), (123, Tryd.f123), (124, Tryd.f124), (125, Tryd.f125), (126, Tryd.f126), (127, Tryd.f127), (128, Tryd.f128), (129, Tryd.f129), (130, Tryd.f130), (137, Tryd.f137), (138, Tryd.f138), (139, Tryd.f139), (140, Tryd.f140), (145, Tryd.f145), (146, Tryd.f146), (147, Tryd.f147), (148, Tryd.f148), (149, Tryd.f149), (150, Tryd.f150), (151, Tryd.f151), (152, Tryd.f152), (153, Tryd.f153), (154, Tryd.f154)]
noncomputable def fns (f : FuncId) : Option Func := List.lookup f fnL
def FnOK (f : Nat) (fn : Func) : Prop := Tryd.prog.funcs[f]? = some fn ∧ ∀ args w, (callFunc f args).run Tryd.prog w = .ok (.enter f args) w
def AllFn : List (Nat × Func) → Prop
  | [] => True
  | p :: l => FnOK p.1 p.2 ∧ AllFn l
theorem allFn : ∀ (l : List (Nat × Func)), AllFn l → ∀ f fn, List.lookup f l = some fn → FnOK f fn
  | [], _, t, i, h => by simp at h
  | (d, v) :: l, hp, t, i, h => by
    rw [lookup_cons] at h
    by_cases hd : t = d
    · simp [hd] at h; subst h hd; exact hp.1
    · simp [hd] at h; exact allFn l hp.2 t i h
theorem fnOK {f : Nat} {fn : Func} (hf : Tryd.prog.funcs[f]? = some fn) (hn : (fn.name == "runtime.NumGoroutine") = false) (hb : fn.body.isNone = false) : FnOK f fn := ⟨hf, callFunc_ok hf hn hb⟩
theorem fns_ok : FnsOK Tryd.prog fns := allFn fnL ⟨fnOK Tryd.func4 (by kernel_rfl) (by kernel_rfl), fnOK Tryd.func10 (by kernel_rfl) (by kernel_rfl), fnOK Tryd.func11 (by kernel_rfl) (by kernel_rfl), fnOK Tryd.func12 (by kernel_rfl) (by kernel_rfl), fnOK Tryd.func13 (by kernel_rfl) (by kernel_rfl), fnOK Tryd.func14 (by kernel_rfl) (by kernel_rfl), fnOK Tryd.func15 (by kernel_rfl) (by kernel_rfl), fnOK Tryd.func16 (by kernel_rfl) (by kernel_rfl), fnOK Tryd.func17 (by kernel_rfl) (by kernel_rfl), fnOK Tryd.func18 (by kernel_rfl) (by kernel_rfl), fnOK Tryd.func19 (by kernel_rfl) (by kernel_rfl), fnOK Tryd.func20 (by kernel_rfl) (by kernel_rfl), fnOK Tryd.func21 (by kernel_rfl) (by kernel_rfl), fnOK Tryd.func22 (by kernel_rfl) (by kernel_rfl), fnOK Tryd.func23 (by kernel_rfl) (by kernel_rfl), fnOK Tryd.func38 (by kernel_rfl) (by kernel_rfl), fnOK Tryd.func50 (by kernel_rfl) (by kernel_rfl), fnOK Tryd.func51 (by kernel_rfl) (by kernel_rfl), fnOK Tryd.func52 (by kernel_rfl) (by kernel_rfl), fnOK Tryd.func53 (by kernel_rfl) (by kernel_rfl), fnOK Tryd.func54 (by kernel_rfl) (by kernel_rfl), fnOK Tryd.func55 (by kernel_rfl) (by kernel_rfl), fnOK Tryd.func56 (by kernel_rfl) (by kernel_rfl), fnOK Tryd.func57 (by kernel_rfl) (by kernel_rfl), fnOK Tryd.func58 (by kernel_rfl) (by kernel_rfl), fnOK Tryd.func59 (by kernel_rfl) (by kernel_rfl), fnOK Tryd.func60 (by kernel_rfl) (by kernel_rfl), fnOK Tryd.func61 (by kernel_rfl) (by kernel_rfl), fnOK Tryd.func62 (by kernel_rfl) (by kernel_rfl), fnOK Tryd.func63 (by kernel_rfl) (by kernel_rfl), fnOK Tryd.func64 (by kernel_rfl) (by kernel_rfl), fnOK Tryd.func72 (by kernel_rfl) (by kernel_rfl), fnOK Tryd.func90 (by kernel_rfl) (by kernel_rfl), fnOK Tryd.func91 (by kernel_rfl) (by kernel_rfl), fnOK Tryd.func92 (by kernel_rfl) (by kernel_rfl), fnOK Tryd.func93 (by kernel_rfl) (by kernel_rfl), fnOK Tryd.func94 (by kernel_rfl) (by kernel_rfl), fnOK Tryd.func95 (by kernel_rfl) (by kernel_rfl), fnOK Tryd.func96 (by kernel_rfl) (by kernel_rfl), fnOK Tryd.func97 (by kernel_rfl) (by kernel_rfl), fnOK Tryd.func98 (by kernel_rfl) (by kernel_rfl), fnOK Tryd.func99 (by kernel_rfl) (by kernel_rfl), fnOK Tryd.func100 (by kernel_rfl) (by kernel_rfl), fnOK Tryd.func101 (by kernel_rfl) (by kernel_rfl), fnOK Tryd.func102 (by kernel_rfl) (by kernel_rfl), fnOK Tryd.func122 (by kernel_rfl) (by kernel_rfl), fnOK Tryd.func123 (by kernel_rfl) (by kernel_rfl), fnOK Tryd.func124 (by kernel_rfl) (by kernel_rfl), fnOK Tryd.func125 (by kernel_rfl) (by kernel_rfl), fnOK Tryd.func126 (by kernel_rfl) (by kernel_rfl), fnOK Tryd.func127 (by kernel_rfl) (by kernel_rfl), fnOK Tryd.func128 (by kernel_rfl) (by kernel_rfl), fnOK Tryd.func129 (by kernel_rfl) (by kernel_rfl), fnOK Tryd.func130 (by kernel_rfl) (by kernel_rfl), fnOK Tryd.func137 (by kernel_rfl) (by kernel_rfl), fnOK Tryd.func138 (by kernel_rfl) (by kernel_rfl), fnOK Tryd.func139 (by kernel_rfl) (by kernel_rfl), fnOK Tryd.func140 (by kernel_rfl) (by kernel_rfl), fnOK Tryd.func145 (by kernel_rfl) (by kernel_rfl), fnOK Tryd.func146 (by kernel_rfl) (by kernel_rfl), fnOK Tryd.func147 (by kernel_rfl) (by kernel_rfl), fnOK Tryd.func148 (by kernel_rfl) (by kernel_rfl), fnOK Tryd.func149 (by kernel_rfl) (by kernel_rfl), fnOK Tryd.func150 (by kernel_rfl) (by kernel_rfl), fnOK Tryd.func151 (by kernel_rfl) (by kernel_rfl), fnOK Tryd.func152 (by kernel_rfl) (by kernel_rfl), fnOK Tryd.func153 (by kernel_rfl) (by kernel_rfl), fnOK Tryd.func154 (by kernel_rfl) (by kernel_rfl), trivial⟩
theorem mixed : Tryd.prog.follows .mixedOrders = true := by kernel_rfl
end Sx
end Go.Proofs.YtimjnajdpccjdaaDoor
