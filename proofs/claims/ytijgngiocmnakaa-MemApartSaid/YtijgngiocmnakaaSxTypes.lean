/- The types of the program, for the symbolic executor. No condition. (Printed by wip/mktab.py.) -/
import Derived.Test.YtijgngiocmnakaaSxD
import Derived.Test.YtijgngiocmnakaaChecked
namespace Go.Proofs.Ytijgngiocmnakaa
open Go.RowKit
set_option linter.unusedVariables false
set_option maxRecDepth 100000
namespace Sx
theorem tyOK_of {P : Program} {t : TypeId} {i : TyI} {it : TypeInfo} {z : Value} {d : TypeDesc} (h1 : P.info? t = some it) (h2 : it.size = i.size) (hb : it.bytes = i.bytes) (h3 : it.zero = some z) (h4 : z.cells.toList = cellsL Num.zero i.zero) (h5 : z = (if i.agg then .agg z.cells else z.cells.toList.headD undef)) (h6 : plainL i.zero = true) (h7 : P.underlying t = some d) (h8 : isAggD d = i.agg) (h9 : DescOK d i.d) (g : i.flat ≠ none → P.eqGuardType P.depth t = false) (f : ∀ ks, i.flat = some ks → isAggT P t = true ∧ ∃ n, flatAt P n t = some ks ∧ n ≤ Op.maxDepth) : TyOK P t i :=
  ⟨⟨it, z, h1, h2, hb, h3, h4, h5⟩, h6, ⟨d, h7, h8, h9⟩, g, f⟩
theorem descSt {fs : Array Field} {l : List (Nat × TypeId)} (h : fs.toList.map (fun f => (f.offset, f.type)) = l) : DescOK (.struct fs) (.st l) := h
theorem infoOf {t : TypeId} {it : TypeInfo} (h : Try.prog.types[t]? = some it) : Try.prog.info? t = some it := by
  unfold Tables.info?
  rw [if_pos (Array.getElem?_eq_some_iff.1 h).1]; exact h
def y1 : TyI := ⟨1, 8, false, [.val .nilFunc], .other, none⟩
theorem ok1 : TyOK Try.prog 1 y1 := tyOK_of (infoOf Try.type1) (by kernel_rfl) (by kernel_rfl) (z := (Try.t1.zero.getD undef)) (by kernel_rfl) (by kernel_rfl) (by kernel_rfl) (by kernel_rfl) Try.underlying1 (by kernel_rfl) (trivial) (fun h => absurd rfl h) (fun ks h => by cases h)
def y2 : TyI := ⟨1, 8, false, [.lit .i64 0], .int .i64, none⟩
theorem ok2 : TyOK Try.prog 2 y2 := tyOK_of (infoOf Try.type2) (by kernel_rfl) (by kernel_rfl) (z := (Try.t2.zero.getD undef)) (by kernel_rfl) (by kernel_rfl) (by kernel_rfl) (by kernel_rfl) Try.underlying2 (by kernel_rfl) (rfl) (fun h => absurd rfl h) (fun ks h => by cases h)
def y3 : TyI := ⟨1, 8, false, [.lit .i64 0], .int .i64, none⟩
theorem ok3 : TyOK Try.prog 3 y3 := tyOK_of (infoOf Try.type3) (by kernel_rfl) (by kernel_rfl) (z := (Try.t3.zero.getD undef)) (by kernel_rfl) (by kernel_rfl) (by kernel_rfl) (by kernel_rfl) Try.underlying3 (by kernel_rfl) (rfl) (fun h => absurd rfl h) (fun ks h => by cases h)
def y4 : TyI := ⟨1, 1, false, [.litb false], .bool, none⟩
theorem ok4 : TyOK Try.prog 4 y4 := tyOK_of (infoOf Try.type4) (by kernel_rfl) (by kernel_rfl) (z := (Try.t4.zero.getD undef)) (by kernel_rfl) (by kernel_rfl) (by kernel_rfl) (by kernel_rfl) Try.underlying4 (by kernel_rfl) (trivial) (fun h => absurd rfl h) (fun ks h => by cases h)
def y5 : TyI := ⟨1, 1, false, [.lit .u8 0], .int .u8, none⟩
theorem ok5 : TyOK Try.prog 5 y5 := tyOK_of (infoOf Try.type5) (by kernel_rfl) (by kernel_rfl) (z := (Try.t5.zero.getD undef)) (by kernel_rfl) (by kernel_rfl) (by kernel_rfl) (by kernel_rfl) Try.underlying5 (by kernel_rfl) (rfl) (fun h => absurd rfl h) (fun ks h => by cases h)
def y6 : TyI := ⟨1, 1, false, [.lit .u8 0], .int .u8, none⟩
theorem ok6 : TyOK Try.prog 6 y6 := tyOK_of (infoOf Try.type6) (by kernel_rfl) (by kernel_rfl) (z := (Try.t6.zero.getD undef)) (by kernel_rfl) (by kernel_rfl) (by kernel_rfl) (by kernel_rfl) Try.underlying6 (by kernel_rfl) (rfl) (fun h => absurd rfl h) (fun ks h => by cases h)
def y7 : TyI := ⟨4, 24, true, [.lit .i64 0, .lit .i64 0, .litb false, .lit .u8 0], .st [(0, 2), (1, 3), (2, 4), (3, 6)], some (List.replicate 1 (some .i64) ++ List.replicate 1 (some .i64) ++ List.replicate 1 (none) ++ List.replicate 1 (some .u8))⟩
theorem ok7 : TyOK Try.prog 7 y7 := tyOK_of (infoOf Try.type7) (by kernel_rfl) (by kernel_rfl) (z := (Try.t7.zero.getD undef)) (by kernel_rfl) (by kernel_rfl) (by kernel_rfl) (by kernel_rfl) Try.underlying7 (by kernel_rfl) (descSt (by kernel_rfl)) (fun _ => by kernel_rfl) (fun ks h => by cases h; exact ⟨by kernel_rfl, 8, by kernel_rfl, by decide⟩)
def y8 : TyI := ⟨4, 24, true, [.lit .i64 0, .lit .i64 0, .litb false, .lit .u8 0], .st [(0, 2), (1, 3), (2, 4), (3, 6)], some (List.replicate 1 (some .i64) ++ List.replicate 1 (some .i64) ++ List.replicate 1 (none) ++ List.replicate 1 (some .u8))⟩
theorem ok8 : TyOK Try.prog 8 y8 := tyOK_of (infoOf Try.type8) (by kernel_rfl) (by kernel_rfl) (z := (Try.t8.zero.getD undef)) (by kernel_rfl) (by kernel_rfl) (by kernel_rfl) (by kernel_rfl) Try.underlying8 (by kernel_rfl) (descSt (by kernel_rfl)) (fun _ => by kernel_rfl) (fun ks h => by cases h; exact ⟨by kernel_rfl, 8, by kernel_rfl, by decide⟩)
def y9 : TyI := ⟨1, 16, false, [.str ⟨#[]⟩], .str, none⟩
theorem ok9 : TyOK Try.prog 9 y9 := tyOK_of (infoOf Try.type9) (by kernel_rfl) (by kernel_rfl) (z := (Try.t9.zero.getD undef)) (by kernel_rfl) (by kernel_rfl) (by kernel_rfl) (by kernel_rfl) Try.underlying9 (by kernel_rfl) (trivial) (fun h => absurd rfl h) (fun ks h => by cases h)
def y10 : TyI := ⟨1, 16, false, [.str ⟨#[]⟩], .str, none⟩
theorem ok10 : TyOK Try.prog 10 y10 := tyOK_of (infoOf Try.type10) (by kernel_rfl) (by kernel_rfl) (z := (Try.t10.zero.getD undef)) (by kernel_rfl) (by kernel_rfl) (by kernel_rfl) (by kernel_rfl) Try.underlying10 (by kernel_rfl) (trivial) (fun h => absurd rfl h) (fun ks h => by cases h)
def y11 : TyI := ⟨1, 16, false, [.str ⟨#[]⟩], .str, none⟩
theorem ok11 : TyOK Try.prog 11 y11 := tyOK_of (infoOf Try.type11) (by kernel_rfl) (by kernel_rfl) (z := (Try.t11.zero.getD undef)) (by kernel_rfl) (by kernel_rfl) (by kernel_rfl) (by kernel_rfl) Try.underlying11 (by kernel_rfl) (trivial) (fun h => absurd rfl h) (fun ks h => by cases h)
def y12 : TyI := ⟨1, 8, false, [.lit .u64 0], .int .u64, none⟩
theorem ok12 : TyOK Try.prog 12 y12 := tyOK_of (infoOf Try.type12) (by kernel_rfl) (by kernel_rfl) (z := (Try.t12.zero.getD undef)) (by kernel_rfl) (by kernel_rfl) (by kernel_rfl) (by kernel_rfl) Try.underlying12 (by kernel_rfl) (rfl) (fun h => absurd rfl h) (fun ks h => by cases h)
def y13 : TyI := ⟨2, 24, true, [.str ⟨#[]⟩, .lit .u64 0], .st [(0, 9), (1, 12)], none⟩
theorem ok13 : TyOK Try.prog 13 y13 := tyOK_of (infoOf Try.type13) (by kernel_rfl) (by kernel_rfl) (z := (Try.t13.zero.getD undef)) (by kernel_rfl) (by kernel_rfl) (by kernel_rfl) (by kernel_rfl) Try.underlying13 (by kernel_rfl) (descSt (by kernel_rfl)) (fun h => absurd rfl h) (fun ks h => by cases h)
def y14 : TyI := ⟨2, 24, true, [.str ⟨#[]⟩, .lit .u64 0], .st [(0, 9), (1, 12)], none⟩
theorem ok14 : TyOK Try.prog 14 y14 := tyOK_of (infoOf Try.type14) (by kernel_rfl) (by kernel_rfl) (z := (Try.t14.zero.getD undef)) (by kernel_rfl) (by kernel_rfl) (by kernel_rfl) (by kernel_rfl) Try.underlying14 (by kernel_rfl) (descSt (by kernel_rfl)) (fun h => absurd rfl h) (fun ks h => by cases h)
def y15 : TyI := ⟨1, 8, false, [.val (.pointer none)], .ptr 124, none⟩
theorem ok15 : TyOK Try.prog 15 y15 := tyOK_of (infoOf Try.type15) (by kernel_rfl) (by kernel_rfl) (z := (Try.t15.zero.getD undef)) (by kernel_rfl) (by kernel_rfl) (by kernel_rfl) (by kernel_rfl) Try.underlying15 (by kernel_rfl) (rfl) (fun h => absurd rfl h) (fun ks h => by cases h)
def y16 : TyI := ⟨1, 8, false, [.val (.pointer none)], .ptr 127, none⟩
theorem ok16 : TyOK Try.prog 16 y16 := tyOK_of (infoOf Try.type16) (by kernel_rfl) (by kernel_rfl) (z := (Try.t16.zero.getD undef)) (by kernel_rfl) (by kernel_rfl) (by kernel_rfl) (by kernel_rfl) Try.underlying16 (by kernel_rfl) (rfl) (fun h => absurd rfl h) (fun ks h => by cases h)
def y17 : TyI := ⟨1, 8, false, [.val (.pointer none)], .ptr 135, none⟩
theorem ok17 : TyOK Try.prog 17 y17 := tyOK_of (infoOf Try.type17) (by kernel_rfl) (by kernel_rfl) (z := (Try.t17.zero.getD undef)) (by kernel_rfl) (by kernel_rfl) (by kernel_rfl) (by kernel_rfl) Try.underlying17 (by kernel_rfl) (rfl) (fun h => absurd rfl h) (fun ks h => by cases h)
def y18 : TyI := ⟨1, 8, true, [.val (.pointer none)], .st [(0, 17)], none⟩
theorem ok18 : TyOK Try.prog 18 y18 := tyOK_of (infoOf Try.type18) (by kernel_rfl) (by kernel_rfl) (z := (Try.t18.zero.getD undef)) (by kernel_rfl) (by kernel_rfl) (by kernel_rfl) (by kernel_rfl) Try.underlying18 (by kernel_rfl) (descSt (by kernel_rfl)) (fun h => absurd rfl h) (fun ks h => by cases h)
def y19 : TyI := ⟨1, 8, true, [.val (.pointer none)], .st [(0, 17)], none⟩
theorem ok19 : TyOK Try.prog 19 y19 := tyOK_of (infoOf Try.type19) (by kernel_rfl) (by kernel_rfl) (z := (Try.t19.zero.getD undef)) (by kernel_rfl) (by kernel_rfl) (by kernel_rfl) (by kernel_rfl) Try.underlying19 (by kernel_rfl) (descSt (by kernel_rfl)) (fun h => absurd rfl h) (fun ks h => by cases h)
def y20 : TyI := ⟨1, 16, false, [.val .nilIface], .other, none⟩
theorem ok20 : TyOK Try.prog 20 y20 := tyOK_of (infoOf Try.type20) (by kernel_rfl) (by kernel_rfl) (z := (Try.t20.zero.getD undef)) (by kernel_rfl) (by kernel_rfl) (by kernel_rfl) (by kernel_rfl) Try.underlying20 (by kernel_rfl) (trivial) (fun h => absurd rfl h) (fun ks h => by cases h)
def y21 : TyI := ⟨1, 4, false, [.lit .i32 0], .int .i32, none⟩
theorem ok21 : TyOK Try.prog 21 y21 := tyOK_of (infoOf Try.type21) (by kernel_rfl) (by kernel_rfl) (z := (Try.t21.zero.getD undef)) (by kernel_rfl) (by kernel_rfl) (by kernel_rfl) (by kernel_rfl) Try.underlying21 (by kernel_rfl) (rfl) (fun h => absurd rfl h) (fun ks h => by cases h)
def y22 : TyI := ⟨1, 24, false, [.val (.slice none 0 0)], .sl 32, none⟩
theorem ok22 : TyOK Try.prog 22 y22 := tyOK_of (infoOf Try.type22) (by kernel_rfl) (by kernel_rfl) (z := (Try.t22.zero.getD undef)) (by kernel_rfl) (by kernel_rfl) (by kernel_rfl) (by kernel_rfl) Try.underlying22 (by kernel_rfl) (rfl) (fun h => absurd rfl h) (fun ks h => by cases h)
def y23 : TyI := ⟨1, 24, false, [.val (.slice none 0 0)], .sl 35, none⟩
theorem ok23 : TyOK Try.prog 23 y23 := tyOK_of (infoOf Try.type23) (by kernel_rfl) (by kernel_rfl) (z := (Try.t23.zero.getD undef)) (by kernel_rfl) (by kernel_rfl) (by kernel_rfl) (by kernel_rfl) Try.underlying23 (by kernel_rfl) (rfl) (fun h => absurd rfl h) (fun ks h => by cases h)
def y24 : TyI := ⟨1, 8, false, [.val (.pointer none)], .ptr 78, none⟩
theorem ok24 : TyOK Try.prog 24 y24 := tyOK_of (infoOf Try.type24) (by kernel_rfl) (by kernel_rfl) (z := (Try.t24.zero.getD undef)) (by kernel_rfl) (by kernel_rfl) (by kernel_rfl) (by kernel_rfl) Try.underlying24 (by kernel_rfl) (rfl) (fun h => absurd rfl h) (fun ks h => by cases h)
def y25 : TyI := ⟨1, 8, false, [.lit .i64 0], .int .i64, none⟩
theorem ok25 : TyOK Try.prog 25 y25 := tyOK_of (infoOf Try.type25) (by kernel_rfl) (by kernel_rfl) (z := (Try.t25.zero.getD undef)) (by kernel_rfl) (by kernel_rfl) (by kernel_rfl) (by kernel_rfl) Try.underlying25 (by kernel_rfl) (rfl) (fun h => absurd rfl h) (fun ks h => by cases h)
def y27 : TyI := ⟨1, 8, false, [.val .nilFunc], .other, none⟩
theorem ok27 : TyOK Try.prog 27 y27 := tyOK_of (infoOf Try.type27) (by kernel_rfl) (by kernel_rfl) (z := (Try.t27.zero.getD undef)) (by kernel_rfl) (by kernel_rfl) (by kernel_rfl) (by kernel_rfl) Try.underlying27 (by kernel_rfl) (trivial) (fun h => absurd rfl h) (fun ks h => by cases h)
def y28 : TyI := ⟨1, 8, false, [.val .nilFunc], .other, none⟩
theorem ok28 : TyOK Try.prog 28 y28 := tyOK_of (infoOf Try.type28) (by kernel_rfl) (by kernel_rfl) (z := (Try.t28.zero.getD undef)) (by kernel_rfl) (by kernel_rfl) (by kernel_rfl) (by kernel_rfl) Try.underlying28 (by kernel_rfl) (trivial) (fun h => absurd rfl h) (fun ks h => by cases h)
def y29 : TyI := ⟨1, 8, false, [.val .nilFunc], .other, none⟩
theorem ok29 : TyOK Try.prog 29 y29 := tyOK_of (infoOf Try.type29) (by kernel_rfl) (by kernel_rfl) (z := (Try.t29.zero.getD undef)) (by kernel_rfl) (by kernel_rfl) (by kernel_rfl) (by kernel_rfl) Try.underlying29 (by kernel_rfl) (trivial) (fun h => absurd rfl h) (fun ks h => by cases h)
def y30 : TyI := ⟨1, 4, false, [.lit .u32 0], .int .u32, none⟩
theorem ok30 : TyOK Try.prog 30 y30 := tyOK_of (infoOf Try.type30) (by kernel_rfl) (by kernel_rfl) (z := (Try.t30.zero.getD undef)) (by kernel_rfl) (by kernel_rfl) (by kernel_rfl) (by kernel_rfl) Try.underlying30 (by kernel_rfl) (rfl) (fun h => absurd rfl h) (fun ks h => by cases h)
def y31 : TyI := ⟨5, 40, true, [.lit .i64 0, .lit .i64 0, .lit .i64 0, .lit .i64 0, .lit .u32 0], .st [(0, 3), (1, 3), (2, 3), (3, 3), (4, 30)], some (List.replicate 1 (some .i64) ++ List.replicate 1 (some .i64) ++ List.replicate 1 (some .i64) ++ List.replicate 1 (some .i64) ++ List.replicate 1 (some .u32))⟩
theorem ok31 : TyOK Try.prog 31 y31 := tyOK_of (infoOf Try.type31) (by kernel_rfl) (by kernel_rfl) (z := (Try.t31.zero.getD undef)) (by kernel_rfl) (by kernel_rfl) (by kernel_rfl) (by kernel_rfl) Try.underlying31 (by kernel_rfl) (descSt (by kernel_rfl)) (fun _ => by kernel_rfl) (fun ks h => by cases h; exact ⟨by kernel_rfl, 8, by kernel_rfl, by decide⟩)
def y32 : TyI := ⟨5, 40, true, [.lit .i64 0, .lit .i64 0, .lit .i64 0, .lit .i64 0, .lit .u32 0], .st [(0, 3), (1, 3), (2, 3), (3, 3), (4, 30)], some (List.replicate 1 (some .i64) ++ List.replicate 1 (some .i64) ++ List.replicate 1 (some .i64) ++ List.replicate 1 (some .i64) ++ List.replicate 1 (some .u32))⟩
theorem ok32 : TyOK Try.prog 32 y32 := tyOK_of (infoOf Try.type32) (by kernel_rfl) (by kernel_rfl) (z := (Try.t32.zero.getD undef)) (by kernel_rfl) (by kernel_rfl) (by kernel_rfl) (by kernel_rfl) Try.underlying32 (by kernel_rfl) (descSt (by kernel_rfl)) (fun _ => by kernel_rfl) (fun ks h => by cases h; exact ⟨by kernel_rfl, 8, by kernel_rfl, by decide⟩)
def y33 : TyI := ⟨1, 8, false, [.val .nilFunc], .other, none⟩
theorem ok33 : TyOK Try.prog 33 y33 := tyOK_of (infoOf Try.type33) (by kernel_rfl) (by kernel_rfl) (z := (Try.t33.zero.getD undef)) (by kernel_rfl) (by kernel_rfl) (by kernel_rfl) (by kernel_rfl) Try.underlying33 (by kernel_rfl) (trivial) (fun h => absurd rfl h) (fun ks h => by cases h)
def y34 : TyI := ⟨2, 16, true, [.lit .i64 0, .lit .i64 0], .st [(0, 3), (1, 3)], some (List.replicate 1 (some .i64) ++ List.replicate 1 (some .i64))⟩
theorem ok34 : TyOK Try.prog 34 y34 := tyOK_of (infoOf Try.type34) (by kernel_rfl) (by kernel_rfl) (z := (Try.t34.zero.getD undef)) (by kernel_rfl) (by kernel_rfl) (by kernel_rfl) (by kernel_rfl) Try.underlying34 (by kernel_rfl) (descSt (by kernel_rfl)) (fun _ => by kernel_rfl) (fun ks h => by cases h; exact ⟨by kernel_rfl, 8, by kernel_rfl, by decide⟩)
def y35 : TyI := ⟨2, 16, true, [.lit .i64 0, .lit .i64 0], .st [(0, 3), (1, 3)], some (List.replicate 1 (some .i64) ++ List.replicate 1 (some .i64))⟩
theorem ok35 : TyOK Try.prog 35 y35 := tyOK_of (infoOf Try.type35) (by kernel_rfl) (by kernel_rfl) (z := (Try.t35.zero.getD undef)) (by kernel_rfl) (by kernel_rfl) (by kernel_rfl) (by kernel_rfl) Try.underlying35 (by kernel_rfl) (descSt (by kernel_rfl)) (fun _ => by kernel_rfl) (fun ks h => by cases h; exact ⟨by kernel_rfl, 8, by kernel_rfl, by decide⟩)
def y36 : TyI := ⟨1, 8, false, [.val .nilFunc], .other, none⟩
theorem ok36 : TyOK Try.prog 36 y36 := tyOK_of (infoOf Try.type36) (by kernel_rfl) (by kernel_rfl) (z := (Try.t36.zero.getD undef)) (by kernel_rfl) (by kernel_rfl) (by kernel_rfl) (by kernel_rfl) Try.underlying36 (by kernel_rfl) (trivial) (fun h => absurd rfl h) (fun ks h => by cases h)
def y38 : TyI := ⟨1, 8, false, [.val .nilFunc], .other, none⟩
theorem ok38 : TyOK Try.prog 38 y38 := tyOK_of (infoOf Try.type38) (by kernel_rfl) (by kernel_rfl) (z := (Try.t38.zero.getD undef)) (by kernel_rfl) (by kernel_rfl) (by kernel_rfl) (by kernel_rfl) Try.underlying38 (by kernel_rfl) (trivial) (fun h => absurd rfl h) (fun ks h => by cases h)
def y39 : TyI := ⟨2, 16, true, [.litb false, .lit .i64 0], .st [(0, 4), (1, 3)], some (List.replicate 1 (none) ++ List.replicate 1 (some .i64))⟩
theorem ok39 : TyOK Try.prog 39 y39 := tyOK_of (infoOf Try.type39) (by kernel_rfl) (by kernel_rfl) (z := (Try.t39.zero.getD undef)) (by kernel_rfl) (by kernel_rfl) (by kernel_rfl) (by kernel_rfl) Try.underlying39 (by kernel_rfl) (descSt (by kernel_rfl)) (fun _ => by kernel_rfl) (fun ks h => by cases h; exact ⟨by kernel_rfl, 8, by kernel_rfl, by decide⟩)
def y40 : TyI := ⟨2, 16, true, [.litb false, .lit .i64 0], .st [(0, 4), (1, 3)], some (List.replicate 1 (none) ++ List.replicate 1 (some .i64))⟩
theorem ok40 : TyOK Try.prog 40 y40 := tyOK_of (infoOf Try.type40) (by kernel_rfl) (by kernel_rfl) (z := (Try.t40.zero.getD undef)) (by kernel_rfl) (by kernel_rfl) (by kernel_rfl) (by kernel_rfl) Try.underlying40 (by kernel_rfl) (descSt (by kernel_rfl)) (fun _ => by kernel_rfl) (fun ks h => by cases h; exact ⟨by kernel_rfl, 8, by kernel_rfl, by decide⟩)
def y41 : TyI := ⟨1, 8, false, [.val .nilFunc], .other, none⟩
theorem ok41 : TyOK Try.prog 41 y41 := tyOK_of (infoOf Try.type41) (by kernel_rfl) (by kernel_rfl) (z := (Try.t41.zero.getD undef)) (by kernel_rfl) (by kernel_rfl) (by kernel_rfl) (by kernel_rfl) Try.underlying41 (by kernel_rfl) (trivial) (fun h => absurd rfl h) (fun ks h => by cases h)
def y42 : TyI := ⟨1, 8, false, [.val .nilFunc], .other, none⟩
theorem ok42 : TyOK Try.prog 42 y42 := tyOK_of (infoOf Try.type42) (by kernel_rfl) (by kernel_rfl) (z := (Try.t42.zero.getD undef)) (by kernel_rfl) (by kernel_rfl) (by kernel_rfl) (by kernel_rfl) Try.underlying42 (by kernel_rfl) (trivial) (fun h => absurd rfl h) (fun ks h => by cases h)
def y43 : TyI := ⟨1, 8, false, [.val .nilFunc], .other, none⟩
theorem ok43 : TyOK Try.prog 43 y43 := tyOK_of (infoOf Try.type43) (by kernel_rfl) (by kernel_rfl) (z := (Try.t43.zero.getD undef)) (by kernel_rfl) (by kernel_rfl) (by kernel_rfl) (by kernel_rfl) Try.underlying43 (by kernel_rfl) (trivial) (fun h => absurd rfl h) (fun ks h => by cases h)
def y44 : TyI := ⟨1, 8, false, [.val .nilFunc], .other, none⟩
theorem ok44 : TyOK Try.prog 44 y44 := tyOK_of (infoOf Try.type44) (by kernel_rfl) (by kernel_rfl) (z := (Try.t44.zero.getD undef)) (by kernel_rfl) (by kernel_rfl) (by kernel_rfl) (by kernel_rfl) Try.underlying44 (by kernel_rfl) (trivial) (fun h => absurd rfl h) (fun ks h => by cases h)
def y45 : TyI := ⟨1, 24, false, [.val (.slice none 0 0)], .sl 30, none⟩
theorem ok45 : TyOK Try.prog 45 y45 := tyOK_of (infoOf Try.type45) (by kernel_rfl) (by kernel_rfl) (z := (Try.t45.zero.getD undef)) (by kernel_rfl) (by kernel_rfl) (by kernel_rfl) (by kernel_rfl) Try.underlying45 (by kernel_rfl) (rfl) (fun h => absurd rfl h) (fun ks h => by cases h)
def y46 : TyI := ⟨1, 8, false, [.val .nilFunc], .other, none⟩
theorem ok46 : TyOK Try.prog 46 y46 := tyOK_of (infoOf Try.type46) (by kernel_rfl) (by kernel_rfl) (z := (Try.t46.zero.getD undef)) (by kernel_rfl) (by kernel_rfl) (by kernel_rfl) (by kernel_rfl) Try.underlying46 (by kernel_rfl) (trivial) (fun h => absurd rfl h) (fun ks h => by cases h)
def y47 : TyI := ⟨1, 8, false, [.val .nilFunc], .other, none⟩
theorem ok47 : TyOK Try.prog 47 y47 := tyOK_of (infoOf Try.type47) (by kernel_rfl) (by kernel_rfl) (z := (Try.t47.zero.getD undef)) (by kernel_rfl) (by kernel_rfl) (by kernel_rfl) (by kernel_rfl) Try.underlying47 (by kernel_rfl) (trivial) (fun h => absurd rfl h) (fun ks h => by cases h)
def y48 : TyI := ⟨1, 8, false, [.val .nilFunc], .other, none⟩
theorem ok48 : TyOK Try.prog 48 y48 := tyOK_of (infoOf Try.type48) (by kernel_rfl) (by kernel_rfl) (z := (Try.t48.zero.getD undef)) (by kernel_rfl) (by kernel_rfl) (by kernel_rfl) (by kernel_rfl) Try.underlying48 (by kernel_rfl) (trivial) (fun h => absurd rfl h) (fun ks h => by cases h)
def y49 : TyI := ⟨1, 8, false, [.val .nilFunc], .other, none⟩
theorem ok49 : TyOK Try.prog 49 y49 := tyOK_of (infoOf Try.type49) (by kernel_rfl) (by kernel_rfl) (z := (Try.t49.zero.getD undef)) (by kernel_rfl) (by kernel_rfl) (by kernel_rfl) (by kernel_rfl) Try.underlying49 (by kernel_rfl) (trivial) (fun h => absurd rfl h) (fun ks h => by cases h)
def y50 : TyI := ⟨1, 8, false, [.val .nilFunc], .other, none⟩
theorem ok50 : TyOK Try.prog 50 y50 := tyOK_of (infoOf Try.type50) (by kernel_rfl) (by kernel_rfl) (z := (Try.t50.zero.getD undef)) (by kernel_rfl) (by kernel_rfl) (by kernel_rfl) (by kernel_rfl) Try.underlying50 (by kernel_rfl) (trivial) (fun h => absurd rfl h) (fun ks h => by cases h)
def y52 : TyI := ⟨1, 8, false, [.val .nilFunc], .other, none⟩
theorem ok52 : TyOK Try.prog 52 y52 := tyOK_of (infoOf Try.type52) (by kernel_rfl) (by kernel_rfl) (z := (Try.t52.zero.getD undef)) (by kernel_rfl) (by kernel_rfl) (by kernel_rfl) (by kernel_rfl) Try.underlying52 (by kernel_rfl) (trivial) (fun h => absurd rfl h) (fun ks h => by cases h)
def y53 : TyI := ⟨1, 8, false, [.val .nilFunc], .other, none⟩
theorem ok53 : TyOK Try.prog 53 y53 := tyOK_of (infoOf Try.type53) (by kernel_rfl) (by kernel_rfl) (z := (Try.t53.zero.getD undef)) (by kernel_rfl) (by kernel_rfl) (by kernel_rfl) (by kernel_rfl) Try.underlying53 (by kernel_rfl) (trivial) (fun h => absurd rfl h) (fun ks h => by cases h)
def y55 : TyI := ⟨1, 8, false, [.val .nilFunc], .other, none⟩
theorem ok55 : TyOK Try.prog 55 y55 := tyOK_of (infoOf Try.type55) (by kernel_rfl) (by kernel_rfl) (z := (Try.t55.zero.getD undef)) (by kernel_rfl) (by kernel_rfl) (by kernel_rfl) (by kernel_rfl) Try.underlying55 (by kernel_rfl) (trivial) (fun h => absurd rfl h) (fun ks h => by cases h)
def y56 : TyI := ⟨1, 8, false, [.val .nilFunc], .other, none⟩
theorem ok56 : TyOK Try.prog 56 y56 := tyOK_of (infoOf Try.type56) (by kernel_rfl) (by kernel_rfl) (z := (Try.t56.zero.getD undef)) (by kernel_rfl) (by kernel_rfl) (by kernel_rfl) (by kernel_rfl) Try.underlying56 (by kernel_rfl) (trivial) (fun h => absurd rfl h) (fun ks h => by cases h)
def y57 : TyI := ⟨1, 8, false, [.val .nilFunc], .other, none⟩
theorem ok57 : TyOK Try.prog 57 y57 := tyOK_of (infoOf Try.type57) (by kernel_rfl) (by kernel_rfl) (z := (Try.t57.zero.getD undef)) (by kernel_rfl) (by kernel_rfl) (by kernel_rfl) (by kernel_rfl) Try.underlying57 (by kernel_rfl) (trivial) (fun h => absurd rfl h) (fun ks h => by cases h)
def y58 : TyI := ⟨1, 8, false, [.val .nilFunc], .other, none⟩
theorem ok58 : TyOK Try.prog 58 y58 := tyOK_of (infoOf Try.type58) (by kernel_rfl) (by kernel_rfl) (z := (Try.t58.zero.getD undef)) (by kernel_rfl) (by kernel_rfl) (by kernel_rfl) (by kernel_rfl) Try.underlying58 (by kernel_rfl) (trivial) (fun h => absurd rfl h) (fun ks h => by cases h)
def y59 : TyI := ⟨1, 8, false, [.val .nilFunc], .other, none⟩
theorem ok59 : TyOK Try.prog 59 y59 := tyOK_of (infoOf Try.type59) (by kernel_rfl) (by kernel_rfl) (z := (Try.t59.zero.getD undef)) (by kernel_rfl) (by kernel_rfl) (by kernel_rfl) (by kernel_rfl) Try.underlying59 (by kernel_rfl) (trivial) (fun h => absurd rfl h) (fun ks h => by cases h)
def y60 : TyI := ⟨1, 8, false, [.val .nilFunc], .other, none⟩
theorem ok60 : TyOK Try.prog 60 y60 := tyOK_of (infoOf Try.type60) (by kernel_rfl) (by kernel_rfl) (z := (Try.t60.zero.getD undef)) (by kernel_rfl) (by kernel_rfl) (by kernel_rfl) (by kernel_rfl) Try.underlying60 (by kernel_rfl) (trivial) (fun h => absurd rfl h) (fun ks h => by cases h)
def y61 : TyI := ⟨1, 24, false, [.val (.slice none 0 0)], .sl 72, none⟩
theorem ok61 : TyOK Try.prog 61 y61 := tyOK_of (infoOf Try.type61) (by kernel_rfl) (by kernel_rfl) (z := (Try.t61.zero.getD undef)) (by kernel_rfl) (by kernel_rfl) (by kernel_rfl) (by kernel_rfl) Try.underlying61 (by kernel_rfl) (rfl) (fun h => absurd rfl h) (fun ks h => by cases h)
def y62 : TyI := ⟨1, 8, false, [.val (.pointer none)], .ptr 68, none⟩
theorem ok62 : TyOK Try.prog 62 y62 := tyOK_of (infoOf Try.type62) (by kernel_rfl) (by kernel_rfl) (z := (Try.t62.zero.getD undef)) (by kernel_rfl) (by kernel_rfl) (by kernel_rfl) (by kernel_rfl) Try.underlying62 (by kernel_rfl) (rfl) (fun h => absurd rfl h) (fun ks h => by cases h)
def y63 : TyI := ⟨4, 32, true, [.val (.pointer none), .val (.pointer none), .val (.pointer none), .val (.pointer none)], .arr 4 24, none⟩
theorem ok63 : TyOK Try.prog 63 y63 := tyOK_of (infoOf Try.type63) (by kernel_rfl) (by kernel_rfl) (z := (Try.t63.zero.getD undef)) (by kernel_rfl) (by kernel_rfl) (by kernel_rfl) (by kernel_rfl) Try.underlying63 (by kernel_rfl) (⟨rfl, rfl⟩) (fun h => absurd rfl h) (fun ks h => by cases h)
def y64 : TyI := ⟨1, 8, false, [.val (.pointer none)], .ptr 107, none⟩
theorem ok64 : TyOK Try.prog 64 y64 := tyOK_of (infoOf Try.type64) (by kernel_rfl) (by kernel_rfl) (z := (Try.t64.zero.getD undef)) (by kernel_rfl) (by kernel_rfl) (by kernel_rfl) (by kernel_rfl) Try.underlying64 (by kernel_rfl) (rfl) (fun h => absurd rfl h) (fun ks h => by cases h)
def y65 : TyI := ⟨4, 32, true, [.val (.pointer none), .val (.pointer none), .val (.pointer none), .val (.pointer none)], .arr 4 64, none⟩
theorem ok65 : TyOK Try.prog 65 y65 := tyOK_of (infoOf Try.type65) (by kernel_rfl) (by kernel_rfl) (z := (Try.t65.zero.getD undef)) (by kernel_rfl) (by kernel_rfl) (by kernel_rfl) (by kernel_rfl) Try.underlying65 (by kernel_rfl) (⟨rfl, rfl⟩) (fun h => absurd rfl h) (fun ks h => by cases h)
def y66 : TyI := ⟨1, 24, false, [.val (.slice none 0 0)], .sl 45, none⟩
theorem ok66 : TyOK Try.prog 66 y66 := tyOK_of (infoOf Try.type66) (by kernel_rfl) (by kernel_rfl) (z := (Try.t66.zero.getD undef)) (by kernel_rfl) (by kernel_rfl) (by kernel_rfl) (by kernel_rfl) Try.underlying66 (by kernel_rfl) (rfl) (fun h => absurd rfl h) (fun ks h => by cases h)
def y67 : TyI := ⟨9, 88, true, [.val (.pointer none), .val (.pointer none), .val (.pointer none), .val (.pointer none), .val (.pointer none), .val (.pointer none), .val (.pointer none), .val (.pointer none), .val (.slice none 0 0)], .st [(0, 63), (4, 65), (8, 66)], none⟩
theorem ok67 : TyOK Try.prog 67 y67 := tyOK_of (infoOf Try.type67) (by kernel_rfl) (by kernel_rfl) (z := (Try.t67.zero.getD undef)) (by kernel_rfl) (by kernel_rfl) (by kernel_rfl) (by kernel_rfl) Try.underlying67 (by kernel_rfl) (descSt (by kernel_rfl)) (fun h => absurd rfl h) (fun ks h => by cases h)
def y68 : TyI := ⟨9, 88, true, [.val (.pointer none), .val (.pointer none), .val (.pointer none), .val (.pointer none), .val (.pointer none), .val (.pointer none), .val (.pointer none), .val (.pointer none), .val (.slice none 0 0)], .st [(0, 63), (4, 65), (8, 66)], none⟩
theorem ok68 : TyOK Try.prog 68 y68 := tyOK_of (infoOf Try.type68) (by kernel_rfl) (by kernel_rfl) (z := (Try.t68.zero.getD undef)) (by kernel_rfl) (by kernel_rfl) (by kernel_rfl) (by kernel_rfl) Try.underlying68 (by kernel_rfl) (descSt (by kernel_rfl)) (fun h => absurd rfl h) (fun ks h => by cases h)
def y69 : TyI := ⟨1, 8, false, [.val .nilFunc], .other, none⟩
theorem ok69 : TyOK Try.prog 69 y69 := tyOK_of (infoOf Try.type69) (by kernel_rfl) (by kernel_rfl) (z := (Try.t69.zero.getD undef)) (by kernel_rfl) (by kernel_rfl) (by kernel_rfl) (by kernel_rfl) Try.underlying69 (by kernel_rfl) (trivial) (fun h => absurd rfl h) (fun ks h => by cases h)
def y70 : TyI := ⟨1, 8, false, [.val .nilFunc], .other, none⟩
theorem ok70 : TyOK Try.prog 70 y70 := tyOK_of (infoOf Try.type70) (by kernel_rfl) (by kernel_rfl) (z := (Try.t70.zero.getD undef)) (by kernel_rfl) (by kernel_rfl) (by kernel_rfl) (by kernel_rfl) Try.underlying70 (by kernel_rfl) (trivial) (fun h => absurd rfl h) (fun ks h => by cases h)
def y71 : TyI := ⟨10, 96, true, [.lit .i64 0, .lit .i64 0, .lit .i64 0, .litb false, .lit .i64 0, .litb false, .lit .i64 0, .lit .i64 0, .lit .u32 0, .val (.slice none 0 0)], .st [(0, 3), (1, 3), (2, 3), (3, 40), (5, 40), (7, 3), (8, 30), (9, 45)], none⟩
theorem ok71 : TyOK Try.prog 71 y71 := tyOK_of (infoOf Try.type71) (by kernel_rfl) (by kernel_rfl) (z := (Try.t71.zero.getD undef)) (by kernel_rfl) (by kernel_rfl) (by kernel_rfl) (by kernel_rfl) Try.underlying71 (by kernel_rfl) (descSt (by kernel_rfl)) (fun h => absurd rfl h) (fun ks h => by cases h)
def y72 : TyI := ⟨10, 96, true, [.lit .i64 0, .lit .i64 0, .lit .i64 0, .litb false, .lit .i64 0, .litb false, .lit .i64 0, .lit .i64 0, .lit .u32 0, .val (.slice none 0 0)], .st [(0, 3), (1, 3), (2, 3), (3, 40), (5, 40), (7, 3), (8, 30), (9, 45)], none⟩
theorem ok72 : TyOK Try.prog 72 y72 := tyOK_of (infoOf Try.type72) (by kernel_rfl) (by kernel_rfl) (z := (Try.t72.zero.getD undef)) (by kernel_rfl) (by kernel_rfl) (by kernel_rfl) (by kernel_rfl) Try.underlying72 (by kernel_rfl) (descSt (by kernel_rfl)) (fun h => absurd rfl h) (fun ks h => by cases h)
def y73 : TyI := ⟨1, 8, false, [.val .nilFunc], .other, none⟩
theorem ok73 : TyOK Try.prog 73 y73 := tyOK_of (infoOf Try.type73) (by kernel_rfl) (by kernel_rfl) (z := (Try.t73.zero.getD undef)) (by kernel_rfl) (by kernel_rfl) (by kernel_rfl) (by kernel_rfl) Try.underlying73 (by kernel_rfl) (trivial) (fun h => absurd rfl h) (fun ks h => by cases h)
def y74 : TyI := ⟨1, 8, false, [.val .nilFunc], .other, none⟩
theorem ok74 : TyOK Try.prog 74 y74 := tyOK_of (infoOf Try.type74) (by kernel_rfl) (by kernel_rfl) (z := (Try.t74.zero.getD undef)) (by kernel_rfl) (by kernel_rfl) (by kernel_rfl) (by kernel_rfl) Try.underlying74 (by kernel_rfl) (trivial) (fun h => absurd rfl h) (fun ks h => by cases h)
def y75 : TyI := ⟨1, 24, false, [.val (.slice none 0 0)], .sl 85, none⟩
theorem ok75 : TyOK Try.prog 75 y75 := tyOK_of (infoOf Try.type75) (by kernel_rfl) (by kernel_rfl) (z := (Try.t75.zero.getD undef)) (by kernel_rfl) (by kernel_rfl) (by kernel_rfl) (by kernel_rfl) Try.underlying75 (by kernel_rfl) (rfl) (fun h => absurd rfl h) (fun ks h => by cases h)
def y76 : TyI := ⟨1, 8, false, [.val .nilFunc], .other, none⟩
theorem ok76 : TyOK Try.prog 76 y76 := tyOK_of (infoOf Try.type76) (by kernel_rfl) (by kernel_rfl) (z := (Try.t76.zero.getD undef)) (by kernel_rfl) (by kernel_rfl) (by kernel_rfl) (by kernel_rfl) Try.underlying76 (by kernel_rfl) (trivial) (fun h => absurd rfl h) (fun ks h => by cases h)
def y77 : TyI := ⟨3, 56, true, [.val (.slice none 0 0), .val (.slice none 0 0), .lit .i64 0], .st [(0, 75), (1, 75), (2, 2)], none⟩
theorem ok77 : TyOK Try.prog 77 y77 := tyOK_of (infoOf Try.type77) (by kernel_rfl) (by kernel_rfl) (z := (Try.t77.zero.getD undef)) (by kernel_rfl) (by kernel_rfl) (by kernel_rfl) (by kernel_rfl) Try.underlying77 (by kernel_rfl) (descSt (by kernel_rfl)) (fun h => absurd rfl h) (fun ks h => by cases h)
def y78 : TyI := ⟨3, 56, true, [.val (.slice none 0 0), .val (.slice none 0 0), .lit .i64 0], .st [(0, 75), (1, 75), (2, 2)], none⟩
theorem ok78 : TyOK Try.prog 78 y78 := tyOK_of (infoOf Try.type78) (by kernel_rfl) (by kernel_rfl) (z := (Try.t78.zero.getD undef)) (by kernel_rfl) (by kernel_rfl) (by kernel_rfl) (by kernel_rfl) Try.underlying78 (by kernel_rfl) (descSt (by kernel_rfl)) (fun h => absurd rfl h) (fun ks h => by cases h)
def y79 : TyI := ⟨1, 8, false, [.val .nilFunc], .other, none⟩
theorem ok79 : TyOK Try.prog 79 y79 := tyOK_of (infoOf Try.type79) (by kernel_rfl) (by kernel_rfl) (z := (Try.t79.zero.getD undef)) (by kernel_rfl) (by kernel_rfl) (by kernel_rfl) (by kernel_rfl) Try.underlying79 (by kernel_rfl) (trivial) (fun h => absurd rfl h) (fun ks h => by cases h)
def y80 : TyI := ⟨1, 8, false, [.val (.pointer none)], .ptr 30, none⟩
theorem ok80 : TyOK Try.prog 80 y80 := tyOK_of (infoOf Try.type80) (by kernel_rfl) (by kernel_rfl) (z := (Try.t80.zero.getD undef)) (by kernel_rfl) (by kernel_rfl) (by kernel_rfl) (by kernel_rfl) Try.underlying80 (by kernel_rfl) (rfl) (fun h => absurd rfl h) (fun ks h => by cases h)
def y82 : TyI := ⟨1, 8, false, [.val .nilFunc], .other, none⟩
theorem ok82 : TyOK Try.prog 82 y82 := tyOK_of (infoOf Try.type82) (by kernel_rfl) (by kernel_rfl) (z := (Try.t82.zero.getD undef)) (by kernel_rfl) (by kernel_rfl) (by kernel_rfl) (by kernel_rfl) Try.underlying82 (by kernel_rfl) (trivial) (fun h => absurd rfl h) (fun ks h => by cases h)
def y84 : TyI := ⟨1, 8, false, [.val .nilFunc], .other, none⟩
theorem ok84 : TyOK Try.prog 84 y84 := tyOK_of (infoOf Try.type84) (by kernel_rfl) (by kernel_rfl) (z := (Try.t84.zero.getD undef)) (by kernel_rfl) (by kernel_rfl) (by kernel_rfl) (by kernel_rfl) Try.underlying84 (by kernel_rfl) (trivial) (fun h => absurd rfl h) (fun ks h => by cases h)
def y85 : TyI := ⟨1, 8, false, [.val (.pointer none)], .ptr 90, none⟩
theorem ok85 : TyOK Try.prog 85 y85 := tyOK_of (infoOf Try.type85) (by kernel_rfl) (by kernel_rfl) (z := (Try.t85.zero.getD undef)) (by kernel_rfl) (by kernel_rfl) (by kernel_rfl) (by kernel_rfl) Try.underlying85 (by kernel_rfl) (rfl) (fun h => absurd rfl h) (fun ks h => by cases h)
def y86 : TyI := ⟨1, 8, false, [.val .nilFunc], .other, none⟩
theorem ok86 : TyOK Try.prog 86 y86 := tyOK_of (infoOf Try.type86) (by kernel_rfl) (by kernel_rfl) (z := (Try.t86.zero.getD undef)) (by kernel_rfl) (by kernel_rfl) (by kernel_rfl) (by kernel_rfl) Try.underlying86 (by kernel_rfl) (trivial) (fun h => absurd rfl h) (fun ks h => by cases h)
def y88 : TyI := ⟨1, 8, false, [.val .nilFunc], .other, none⟩
theorem ok88 : TyOK Try.prog 88 y88 := tyOK_of (infoOf Try.type88) (by kernel_rfl) (by kernel_rfl) (z := (Try.t88.zero.getD undef)) (by kernel_rfl) (by kernel_rfl) (by kernel_rfl) (by kernel_rfl) Try.underlying88 (by kernel_rfl) (trivial) (fun h => absurd rfl h) (fun ks h => by cases h)
def y89 : TyI := ⟨1024, 4096, true, [.ints .u32 1024 (List.replicate 1024 0)], .arr 1024 30, some (List.replicate 1024 (some .u32))⟩
theorem ok89 : TyOK Try.prog 89 y89 := tyOK_of (infoOf Try.type89) (by kernel_rfl) (by kernel_rfl) (z := (Try.t89.zero.getD undef)) (by kernel_rfl) (by kernel_rfl) (by kernel_rfl) (by kernel_rfl) Try.underlying89 (by kernel_rfl) (⟨rfl, rfl⟩) (fun _ => by kernel_rfl) (fun ks h => by cases h; exact ⟨by kernel_rfl, 8, by kernel_rfl, by decide⟩)
def y90 : TyI := ⟨1024, 4096, true, [.ints .u32 1024 (List.replicate 1024 0)], .arr 1024 30, some (List.replicate 1024 (some .u32))⟩
theorem ok90 : TyOK Try.prog 90 y90 := tyOK_of (infoOf Try.type90) (by kernel_rfl) (by kernel_rfl) (z := (Try.t90.zero.getD undef)) (by kernel_rfl) (by kernel_rfl) (by kernel_rfl) (by kernel_rfl) Try.underlying90 (by kernel_rfl) (⟨rfl, rfl⟩) (fun _ => by kernel_rfl) (fun ks h => by cases h; exact ⟨by kernel_rfl, 8, by kernel_rfl, by decide⟩)
def y91 : TyI := ⟨1, 8, false, [.val .nilFunc], .other, none⟩
theorem ok91 : TyOK Try.prog 91 y91 := tyOK_of (infoOf Try.type91) (by kernel_rfl) (by kernel_rfl) (z := (Try.t91.zero.getD undef)) (by kernel_rfl) (by kernel_rfl) (by kernel_rfl) (by kernel_rfl) Try.underlying91 (by kernel_rfl) (trivial) (fun h => absurd rfl h) (fun ks h => by cases h)
def y92 : TyI := ⟨1, 8, false, [.val .nilFunc], .other, none⟩
theorem ok92 : TyOK Try.prog 92 y92 := tyOK_of (infoOf Try.type92) (by kernel_rfl) (by kernel_rfl) (z := (Try.t92.zero.getD undef)) (by kernel_rfl) (by kernel_rfl) (by kernel_rfl) (by kernel_rfl) Try.underlying92 (by kernel_rfl) (trivial) (fun h => absurd rfl h) (fun ks h => by cases h)
def y94 : TyI := ⟨1, 8, false, [.val .nilFunc], .other, none⟩
theorem ok94 : TyOK Try.prog 94 y94 := tyOK_of (infoOf Try.type94) (by kernel_rfl) (by kernel_rfl) (z := (Try.t94.zero.getD undef)) (by kernel_rfl) (by kernel_rfl) (by kernel_rfl) (by kernel_rfl) Try.underlying94 (by kernel_rfl) (trivial) (fun h => absurd rfl h) (fun ks h => by cases h)
def y96 : TyI := ⟨1, 8, false, [.val .nilFunc], .other, none⟩
theorem ok96 : TyOK Try.prog 96 y96 := tyOK_of (infoOf Try.type96) (by kernel_rfl) (by kernel_rfl) (z := (Try.t96.zero.getD undef)) (by kernel_rfl) (by kernel_rfl) (by kernel_rfl) (by kernel_rfl) Try.underlying96 (by kernel_rfl) (trivial) (fun h => absurd rfl h) (fun ks h => by cases h)
def y97 : TyI := ⟨2, 16, true, [.litb false, .lit .i64 0], .st [(0, 4), (1, 3)], some (List.replicate 1 (none) ++ List.replicate 1 (some .i64))⟩
theorem ok97 : TyOK Try.prog 97 y97 := tyOK_of (infoOf Try.type97) (by kernel_rfl) (by kernel_rfl) (z := (Try.t97.zero.getD undef)) (by kernel_rfl) (by kernel_rfl) (by kernel_rfl) (by kernel_rfl) Try.underlying97 (by kernel_rfl) (descSt (by kernel_rfl)) (fun _ => by kernel_rfl) (fun ks h => by cases h; exact ⟨by kernel_rfl, 8, by kernel_rfl, by decide⟩)
def y98 : TyI := ⟨1, 8, false, [.val .nilFunc], .other, none⟩
theorem ok98 : TyOK Try.prog 98 y98 := tyOK_of (infoOf Try.type98) (by kernel_rfl) (by kernel_rfl) (z := (Try.t98.zero.getD undef)) (by kernel_rfl) (by kernel_rfl) (by kernel_rfl) (by kernel_rfl) Try.underlying98 (by kernel_rfl) (trivial) (fun h => absurd rfl h) (fun ks h => by cases h)
def y99 : TyI := ⟨1, 8, false, [.val .nilFunc], .other, none⟩
theorem ok99 : TyOK Try.prog 99 y99 := tyOK_of (infoOf Try.type99) (by kernel_rfl) (by kernel_rfl) (z := (Try.t99.zero.getD undef)) (by kernel_rfl) (by kernel_rfl) (by kernel_rfl) (by kernel_rfl) Try.underlying99 (by kernel_rfl) (trivial) (fun h => absurd rfl h) (fun ks h => by cases h)
def y100 : TyI := ⟨1, 8, false, [.val .nilFunc], .other, none⟩
theorem ok100 : TyOK Try.prog 100 y100 := tyOK_of (infoOf Try.type100) (by kernel_rfl) (by kernel_rfl) (z := (Try.t100.zero.getD undef)) (by kernel_rfl) (by kernel_rfl) (by kernel_rfl) (by kernel_rfl) Try.underlying100 (by kernel_rfl) (trivial) (fun h => absurd rfl h) (fun ks h => by cases h)
def y101 : TyI := ⟨1, 8, false, [.val .nilFunc], .other, none⟩
theorem ok101 : TyOK Try.prog 101 y101 := tyOK_of (infoOf Try.type101) (by kernel_rfl) (by kernel_rfl) (z := (Try.t101.zero.getD undef)) (by kernel_rfl) (by kernel_rfl) (by kernel_rfl) (by kernel_rfl) Try.underlying101 (by kernel_rfl) (trivial) (fun h => absurd rfl h) (fun ks h => by cases h)
def y102 : TyI := ⟨1, 8, false, [.val .nilFunc], .other, none⟩
theorem ok102 : TyOK Try.prog 102 y102 := tyOK_of (infoOf Try.type102) (by kernel_rfl) (by kernel_rfl) (z := (Try.t102.zero.getD undef)) (by kernel_rfl) (by kernel_rfl) (by kernel_rfl) (by kernel_rfl) Try.underlying102 (by kernel_rfl) (trivial) (fun h => absurd rfl h) (fun ks h => by cases h)
def y103 : TyI := ⟨1, 8, false, [.val .nilFunc], .other, none⟩
theorem ok103 : TyOK Try.prog 103 y103 := tyOK_of (infoOf Try.type103) (by kernel_rfl) (by kernel_rfl) (z := (Try.t103.zero.getD undef)) (by kernel_rfl) (by kernel_rfl) (by kernel_rfl) (by kernel_rfl) Try.underlying103 (by kernel_rfl) (trivial) (fun h => absurd rfl h) (fun ks h => by cases h)
def y104 : TyI := ⟨1, 8, false, [.val .nilFunc], .other, none⟩
theorem ok104 : TyOK Try.prog 104 y104 := tyOK_of (infoOf Try.type104) (by kernel_rfl) (by kernel_rfl) (z := (Try.t104.zero.getD undef)) (by kernel_rfl) (by kernel_rfl) (by kernel_rfl) (by kernel_rfl) Try.underlying104 (by kernel_rfl) (trivial) (fun h => absurd rfl h) (fun ks h => by cases h)
def y105 : TyI := ⟨1, 8, false, [.val .nilFunc], .other, none⟩
theorem ok105 : TyOK Try.prog 105 y105 := tyOK_of (infoOf Try.type105) (by kernel_rfl) (by kernel_rfl) (z := (Try.t105.zero.getD undef)) (by kernel_rfl) (by kernel_rfl) (by kernel_rfl) (by kernel_rfl) Try.underlying105 (by kernel_rfl) (trivial) (fun h => absurd rfl h) (fun ks h => by cases h)
def y106 : TyI := ⟨3, 40, true, [.val (.slice none 0 0), .lit .i64 0, .lit .i64 0], .st [(0, 66), (1, 3), (2, 2)], none⟩
theorem ok106 : TyOK Try.prog 106 y106 := tyOK_of (infoOf Try.type106) (by kernel_rfl) (by kernel_rfl) (z := (Try.t106.zero.getD undef)) (by kernel_rfl) (by kernel_rfl) (by kernel_rfl) (by kernel_rfl) Try.underlying106 (by kernel_rfl) (descSt (by kernel_rfl)) (fun h => absurd rfl h) (fun ks h => by cases h)
def y107 : TyI := ⟨3, 40, true, [.val (.slice none 0 0), .lit .i64 0, .lit .i64 0], .st [(0, 66), (1, 3), (2, 2)], none⟩
theorem ok107 : TyOK Try.prog 107 y107 := tyOK_of (infoOf Try.type107) (by kernel_rfl) (by kernel_rfl) (z := (Try.t107.zero.getD undef)) (by kernel_rfl) (by kernel_rfl) (by kernel_rfl) (by kernel_rfl) Try.underlying107 (by kernel_rfl) (descSt (by kernel_rfl)) (fun h => absurd rfl h) (fun ks h => by cases h)
def y108 : TyI := ⟨1, 8, false, [.val .nilFunc], .other, none⟩
theorem ok108 : TyOK Try.prog 108 y108 := tyOK_of (infoOf Try.type108) (by kernel_rfl) (by kernel_rfl) (z := (Try.t108.zero.getD undef)) (by kernel_rfl) (by kernel_rfl) (by kernel_rfl) (by kernel_rfl) Try.underlying108 (by kernel_rfl) (trivial) (fun h => absurd rfl h) (fun ks h => by cases h)
def y109 : TyI := ⟨1, 8, false, [.val .nilFunc], .other, none⟩
theorem ok109 : TyOK Try.prog 109 y109 := tyOK_of (infoOf Try.type109) (by kernel_rfl) (by kernel_rfl) (z := (Try.t109.zero.getD undef)) (by kernel_rfl) (by kernel_rfl) (by kernel_rfl) (by kernel_rfl) Try.underlying109 (by kernel_rfl) (trivial) (fun h => absurd rfl h) (fun ks h => by cases h)
def y111 : TyI := ⟨1, 8, false, [.val .nilFunc], .other, none⟩
theorem ok111 : TyOK Try.prog 111 y111 := tyOK_of (infoOf Try.type111) (by kernel_rfl) (by kernel_rfl) (z := (Try.t111.zero.getD undef)) (by kernel_rfl) (by kernel_rfl) (by kernel_rfl) (by kernel_rfl) Try.underlying111 (by kernel_rfl) (trivial) (fun h => absurd rfl h) (fun ks h => by cases h)
def y112 : TyI := ⟨1, 8, false, [.val .nilFunc], .other, none⟩
theorem ok112 : TyOK Try.prog 112 y112 := tyOK_of (infoOf Try.type112) (by kernel_rfl) (by kernel_rfl) (z := (Try.t112.zero.getD undef)) (by kernel_rfl) (by kernel_rfl) (by kernel_rfl) (by kernel_rfl) Try.underlying112 (by kernel_rfl) (trivial) (fun h => absurd rfl h) (fun ks h => by cases h)
def y113 : TyI := ⟨1, 8, false, [.val .nilFunc], .other, none⟩
theorem ok113 : TyOK Try.prog 113 y113 := tyOK_of (infoOf Try.type113) (by kernel_rfl) (by kernel_rfl) (z := (Try.t113.zero.getD undef)) (by kernel_rfl) (by kernel_rfl) (by kernel_rfl) (by kernel_rfl) Try.underlying113 (by kernel_rfl) (trivial) (fun h => absurd rfl h) (fun ks h => by cases h)
def y115 : TyI := ⟨1, 8, false, [.val .nilFunc], .other, none⟩
theorem ok115 : TyOK Try.prog 115 y115 := tyOK_of (infoOf Try.type115) (by kernel_rfl) (by kernel_rfl) (z := (Try.t115.zero.getD undef)) (by kernel_rfl) (by kernel_rfl) (by kernel_rfl) (by kernel_rfl) Try.underlying115 (by kernel_rfl) (trivial) (fun h => absurd rfl h) (fun ks h => by cases h)
def y116 : TyI := ⟨1, 8, false, [.val .nilFunc], .other, none⟩
theorem ok116 : TyOK Try.prog 116 y116 := tyOK_of (infoOf Try.type116) (by kernel_rfl) (by kernel_rfl) (z := (Try.t116.zero.getD undef)) (by kernel_rfl) (by kernel_rfl) (by kernel_rfl) (by kernel_rfl) Try.underlying116 (by kernel_rfl) (trivial) (fun h => absurd rfl h) (fun ks h => by cases h)
def y117 : TyI := ⟨1, 8, false, [.val .nilFunc], .other, none⟩
theorem ok117 : TyOK Try.prog 117 y117 := tyOK_of (infoOf Try.type117) (by kernel_rfl) (by kernel_rfl) (z := (Try.t117.zero.getD undef)) (by kernel_rfl) (by kernel_rfl) (by kernel_rfl) (by kernel_rfl) Try.underlying117 (by kernel_rfl) (trivial) (fun h => absurd rfl h) (fun ks h => by cases h)
def y118 : TyI := ⟨1, 8, false, [.val .nilFunc], .other, none⟩
theorem ok118 : TyOK Try.prog 118 y118 := tyOK_of (infoOf Try.type118) (by kernel_rfl) (by kernel_rfl) (z := (Try.t118.zero.getD undef)) (by kernel_rfl) (by kernel_rfl) (by kernel_rfl) (by kernel_rfl) Try.underlying118 (by kernel_rfl) (trivial) (fun h => absurd rfl h) (fun ks h => by cases h)
def y119 : TyI := ⟨1, 8, false, [.val .nilFunc], .other, none⟩
theorem ok119 : TyOK Try.prog 119 y119 := tyOK_of (infoOf Try.type119) (by kernel_rfl) (by kernel_rfl) (z := (Try.t119.zero.getD undef)) (by kernel_rfl) (by kernel_rfl) (by kernel_rfl) (by kernel_rfl) Try.underlying119 (by kernel_rfl) (trivial) (fun h => absurd rfl h) (fun ks h => by cases h)
def y120 : TyI := ⟨1, 8, false, [.val .nilFunc], .other, none⟩
theorem ok120 : TyOK Try.prog 120 y120 := tyOK_of (infoOf Try.type120) (by kernel_rfl) (by kernel_rfl) (z := (Try.t120.zero.getD undef)) (by kernel_rfl) (by kernel_rfl) (by kernel_rfl) (by kernel_rfl) Try.underlying120 (by kernel_rfl) (trivial) (fun h => absurd rfl h) (fun ks h => by cases h)
def y121 : TyI := ⟨1, 8, false, [.val .nilFunc], .other, none⟩
theorem ok121 : TyOK Try.prog 121 y121 := tyOK_of (infoOf Try.type121) (by kernel_rfl) (by kernel_rfl) (z := (Try.t121.zero.getD undef)) (by kernel_rfl) (by kernel_rfl) (by kernel_rfl) (by kernel_rfl) Try.underlying121 (by kernel_rfl) (trivial) (fun h => absurd rfl h) (fun ks h => by cases h)
def y122 : TyI := ⟨1, 8, false, [.val .nilFunc], .other, none⟩
theorem ok122 : TyOK Try.prog 122 y122 := tyOK_of (infoOf Try.type122) (by kernel_rfl) (by kernel_rfl) (z := (Try.t122.zero.getD undef)) (by kernel_rfl) (by kernel_rfl) (by kernel_rfl) (by kernel_rfl) Try.underlying122 (by kernel_rfl) (trivial) (fun h => absurd rfl h) (fun ks h => by cases h)
def y123 : TyI := ⟨4, 40, true, [.val (.pointer none), .val (.pointer none), .val (.pointer none), .str ⟨#[]⟩], .st [(0, 17), (1, 17), (2, 17), (3, 9)], none⟩
theorem ok123 : TyOK Try.prog 123 y123 := tyOK_of (infoOf Try.type123) (by kernel_rfl) (by kernel_rfl) (z := (Try.t123.zero.getD undef)) (by kernel_rfl) (by kernel_rfl) (by kernel_rfl) (by kernel_rfl) Try.underlying123 (by kernel_rfl) (descSt (by kernel_rfl)) (fun h => absurd rfl h) (fun ks h => by cases h)
def y124 : TyI := ⟨4, 40, true, [.val (.pointer none), .val (.pointer none), .val (.pointer none), .str ⟨#[]⟩], .st [(0, 17), (1, 17), (2, 17), (3, 9)], none⟩
theorem ok124 : TyOK Try.prog 124 y124 := tyOK_of (infoOf Try.type124) (by kernel_rfl) (by kernel_rfl) (z := (Try.t124.zero.getD undef)) (by kernel_rfl) (by kernel_rfl) (by kernel_rfl) (by kernel_rfl) Try.underlying124 (by kernel_rfl) (descSt (by kernel_rfl)) (fun h => absurd rfl h) (fun ks h => by cases h)
def y128 : TyI := ⟨1, 1, false, [.lit .u8 0], .int .u8, none⟩
theorem ok128 : TyOK Try.prog 128 y128 := tyOK_of (infoOf Try.type128) (by kernel_rfl) (by kernel_rfl) (z := (Try.t128.zero.getD undef)) (by kernel_rfl) (by kernel_rfl) (by kernel_rfl) (by kernel_rfl) Try.underlying128 (by kernel_rfl) (rfl) (fun h => absurd rfl h) (fun ks h => by cases h)
def y129 : TyI := ⟨1, 1, false, [.lit .u8 0], .int .u8, none⟩
theorem ok129 : TyOK Try.prog 129 y129 := tyOK_of (infoOf Try.type129) (by kernel_rfl) (by kernel_rfl) (z := (Try.t129.zero.getD undef)) (by kernel_rfl) (by kernel_rfl) (by kernel_rfl) (by kernel_rfl) Try.underlying129 (by kernel_rfl) (rfl) (fun h => absurd rfl h) (fun ks h => by cases h)
def y130 : TyI := ⟨1, 8, false, [.val .nilFunc], .other, none⟩
theorem ok130 : TyOK Try.prog 130 y130 := tyOK_of (infoOf Try.type130) (by kernel_rfl) (by kernel_rfl) (z := (Try.t130.zero.getD undef)) (by kernel_rfl) (by kernel_rfl) (by kernel_rfl) (by kernel_rfl) Try.underlying130 (by kernel_rfl) (trivial) (fun h => absurd rfl h) (fun ks h => by cases h)
def y131 : TyI := ⟨1, 8, false, [.val (.pointer none)], .ptr 5, none⟩
theorem ok131 : TyOK Try.prog 131 y131 := tyOK_of (infoOf Try.type131) (by kernel_rfl) (by kernel_rfl) (z := (Try.t131.zero.getD undef)) (by kernel_rfl) (by kernel_rfl) (by kernel_rfl) (by kernel_rfl) Try.underlying131 (by kernel_rfl) (rfl) (fun h => absurd rfl h) (fun ks h => by cases h)
def y132 : TyI := ⟨1, 4, false, [.lit .i32 0], .int .i32, none⟩
theorem ok132 : TyOK Try.prog 132 y132 := tyOK_of (infoOf Try.type132) (by kernel_rfl) (by kernel_rfl) (z := (Try.t132.zero.getD undef)) (by kernel_rfl) (by kernel_rfl) (by kernel_rfl) (by kernel_rfl) Try.underlying132 (by kernel_rfl) (rfl) (fun h => absurd rfl h) (fun ks h => by cases h)
def y133 : TyI := ⟨1, 4, false, [.lit .i32 0], .int .i32, none⟩
theorem ok133 : TyOK Try.prog 133 y133 := tyOK_of (infoOf Try.type133) (by kernel_rfl) (by kernel_rfl) (z := (Try.t133.zero.getD undef)) (by kernel_rfl) (by kernel_rfl) (by kernel_rfl) (by kernel_rfl) Try.underlying133 (by kernel_rfl) (rfl) (fun h => absurd rfl h) (fun ks h => by cases h)
def y134 : TyI := ⟨11, 48, true, [.lit .u64 0, .lit .u64 0, .lit .u32 0, .lit .u8 0, .lit .u8 0, .lit .u8 0, .lit .u8 0, .val .nilFunc, .val (.pointer none), .lit .i32 0, .lit .i32 0], .st [(0, 12), (1, 12), (2, 30), (3, 128), (4, 5), (5, 5), (6, 129), (7, 130), (8, 131), (9, 132), (10, 133)], none⟩
theorem ok134 : TyOK Try.prog 134 y134 := tyOK_of (infoOf Try.type134) (by kernel_rfl) (by kernel_rfl) (z := (Try.t134.zero.getD undef)) (by kernel_rfl) (by kernel_rfl) (by kernel_rfl) (by kernel_rfl) Try.underlying134 (by kernel_rfl) (descSt (by kernel_rfl)) (fun h => absurd rfl h) (fun ks h => by cases h)
def y135 : TyI := ⟨11, 48, true, [.lit .u64 0, .lit .u64 0, .lit .u32 0, .lit .u8 0, .lit .u8 0, .lit .u8 0, .lit .u8 0, .val .nilFunc, .val (.pointer none), .lit .i32 0, .lit .i32 0], .st [(0, 12), (1, 12), (2, 30), (3, 128), (4, 5), (5, 5), (6, 129), (7, 130), (8, 131), (9, 132), (10, 133)], none⟩
theorem ok135 : TyOK Try.prog 135 y135 := tyOK_of (infoOf Try.type135) (by kernel_rfl) (by kernel_rfl) (z := (Try.t135.zero.getD undef)) (by kernel_rfl) (by kernel_rfl) (by kernel_rfl) (by kernel_rfl) Try.underlying135 (by kernel_rfl) (descSt (by kernel_rfl)) (fun h => absurd rfl h) (fun ks h => by cases h)
def tab : Tab := [(1, y1), (2, y2), (3, y3), (4, y4), (5, y5), (6, y6), (7, y7), (8, y8), (9, y9), (10, y10), (11, y11), (12, y12), (13, y13), (14, y14), (15, y15), (16, y16), (17, y17), (18, y18), (19, y19), (20, y20), (21, y21), (22, y22), (23, y23), (24, y24), (25, y25), (27, y27), (28, y28), (29, y29), (30, y30), (31, y31), (32, y32), (33, y33), (34, y34), (35, y35), (36, y36), (38, y38), (39, y39), (40, y40), (41, y41), (42, y42), (43, y43), (44, y44), (45, y45), (46, y46), (47, y47), (48, y48), (49, y49), (50, y50), (52, y52), (53, y53), (55, y55), (56, y56), (57, y57), (58, y58), (59, y59), (60, y60), (61, y61), (62, y62), (63, y63), (64, y64), (65, y65), (66, y66), (67, y67), (68, y68), (69, y69), (70, y70), (71, y71), (72, y72), (73, y73), (74, y74), (75, y75), (76, y76), (77, y77), (78, y78), (79, y79), (80, y80), (82, y82), (84, y84), (85, y85), (86, y86), (88, y88), (89, y89), (90, y90), (91, y91), (92, y92), (94, y94), (96, y96), (97, y97), (98, y98), (99, y99), (100, y100), (101, y101), (102, y102), (103, y103), (104, y104), (105, y105), (106, y106), (107, y107), (108, y108), (109, y109), (111, y111), (112, y112), (113, y113), (115, y115), (116, y116), (117, y117), (118, y118), (119, y119), (120, y120), (121, y121), (122, y122), (123, y123), (124, y124), (128, y128), (129, y129), (130, y130), (131, y131), (132, y132), (133, y133), (134, y134), (135, y135)]
def AllOK : Tab → Prop
  | [] => True
  | p :: l => TyOK Try.prog p.1 p.2 ∧ AllOK l
theorem all_ok : ∀ (l : Tab), AllOK l → ∀ t i, List.lookup t l = some i → TyOK Try.prog t i
  | [], _, t, i, h => by simp at h
  | (d, v) :: l, hp, t, i, h => by
    rw [lookup_cons] at h
    by_cases hd : t = d
    · simp [hd] at h; subst h hd; exact hp.1
    · simp [hd] at h; exact all_ok l hp.2 t i h
theorem tab_ok : TabOK Try.prog tab := all_ok tab ⟨ok1, ok2, ok3, ok4, ok5, ok6, ok7, ok8, ok9, ok10, ok11, ok12, ok13, ok14, ok15, ok16, ok17, ok18, ok19, ok20, ok21, ok22, ok23, ok24, ok25, ok27, ok28, ok29, ok30, ok31, ok32, ok33, ok34, ok35, ok36, ok38, ok39, ok40, ok41, ok42, ok43, ok44, ok45, ok46, ok47, ok48, ok49, ok50, ok52, ok53, ok55, ok56, ok57, ok58, ok59, ok60, ok61, ok62, ok63, ok64, ok65, ok66, ok67, ok68, ok69, ok70, ok71, ok72, ok73, ok74, ok75, ok76, ok77, ok78, ok79, ok80, ok82, ok84, ok85, ok86, ok88, ok89, ok90, ok91, ok92, ok94, ok96, ok97, ok98, ok99, ok100, ok101, ok102, ok103, ok104, ok105, ok106, ok107, ok108, ok109, ok111, ok112, ok113, ok115, ok116, ok117, ok118, ok119, ok120, ok121, ok122, ok123, ok124, ok128, ok129, ok130, ok131, ok132, ok133, ok134, ok135, trivial⟩
noncomputable def fnL : List (Nat × Func) := [(2, Try.f2), (3, Try.f3), (4, Try.f4), (5, Try.f5), (6, Try.f6), (7, Try.f7), (8, Try.f8), (9, Try.f9), (10, Try.f10), (11, Try.f11), (12, Try.f12), (13, Try.f13), (14, Try.f14), (15, Try.f15), (16, Try.f16), (17, Try.f17), (18, Try.f18), (19, Try.f19), (20, Try.f20), (21, Try.f21), (22, Try.f22), (23, Try.f23), (24, Try.f24), (25, Try.f25), (26, Try.f26), (27, Try.f27), (28, Try.f28), (29, Try.f29), (30, Try.f30), (31, Try.f31), (32, Try.f32), (33, Try.f33), (34, Try.f34), (35, Try.f35), (36, Try.f36), (37, Try.f37), (38, Try.f38), (39, Try.f39), (40, Try.f40), (41, Try.f41), (42, Try.f42), (43, Try.f43), (44, Try.f44), (45, Try.f45), (46, Try.f46), (47, Try.f47), (48, Try.f48), (49, Try.f49), (50, Try.f50), (51, Try.f51), (52, Try.f52), (53, Try.f53), (54, Try.f54), (55, Try.f55), (56, Try.f56), (57, Try.f57), (58, Try.f58), (59, Try.f59), (60, Try.f60), (61, Try.f61), (62, Try.f62), (63, Try.f63), (64, Try.f64), (65, Try.f65), (66, Try.f66), (67, Try.f67)]
noncomputable def fns (f : FuncId) : Option Func := List.lookup f fnL
def FnOK (f : Nat) (fn : Func) : Prop := Try.prog.funcs[f]? = some fn ∧ ∀ args w, (callFunc f args).run Try.prog w = .ok (.enter f args) w
def AllFn : List (Nat × Func) → Prop
  | [] => True
  | p :: l => FnOK p.1 p.2 ∧ AllFn l
theorem allFn : ∀ (l : List (Nat × Func)), AllFn l → ∀ f fn, List.lookup f l = some fn → FnOK f fn
  | [], _, t, i, h => by simp at h
  | (d, v) :: l, hp, t, i, h => by
    rw [lookup_cons] at h
    by_cases hd : t = d
    · simp [hd] at h; subst h hd; exact hp.1
    · simp [hd] at h; exact allFn l hp.2 t i h
theorem fnOK {f : Nat} {fn : Func} (hf : Try.prog.funcs[f]? = some fn) (hn : (fn.name == "runtime.NumGoroutine") = false) (hb : fn.body.isNone = false) : FnOK f fn := ⟨hf, callFunc_ok hf hn hb⟩
theorem fns_ok : FnsOK Try.prog fns := allFn fnL ⟨fnOK Try.func2 (by kernel_rfl) (by kernel_rfl), fnOK Try.func3 (by kernel_rfl) (by kernel_rfl), fnOK Try.func4 (by kernel_rfl) (by kernel_rfl), fnOK Try.func5 (by kernel_rfl) (by kernel_rfl), fnOK Try.func6 (by kernel_rfl) (by kernel_rfl), fnOK Try.func7 (by kernel_rfl) (by kernel_rfl), fnOK Try.func8 (by kernel_rfl) (by kernel_rfl), fnOK Try.func9 (by kernel_rfl) (by kernel_rfl), fnOK Try.func10 (by kernel_rfl) (by kernel_rfl), fnOK Try.func11 (by kernel_rfl) (by kernel_rfl), fnOK Try.func12 (by kernel_rfl) (by kernel_rfl), fnOK Try.func13 (by kernel_rfl) (by kernel_rfl), fnOK Try.func14 (by kernel_rfl) (by kernel_rfl), fnOK Try.func15 (by kernel_rfl) (by kernel_rfl), fnOK Try.func16 (by kernel_rfl) (by kernel_rfl), fnOK Try.func17 (by kernel_rfl) (by kernel_rfl), fnOK Try.func18 (by kernel_rfl) (by kernel_rfl), fnOK Try.func19 (by kernel_rfl) (by kernel_rfl), fnOK Try.func20 (by kernel_rfl) (by kernel_rfl), fnOK Try.func21 (by kernel_rfl) (by kernel_rfl), fnOK Try.func22 (by kernel_rfl) (by kernel_rfl), fnOK Try.func23 (by kernel_rfl) (by kernel_rfl), fnOK Try.func24 (by kernel_rfl) (by kernel_rfl), fnOK Try.func25 (by kernel_rfl) (by kernel_rfl), fnOK Try.func26 (by kernel_rfl) (by kernel_rfl), fnOK Try.func27 (by kernel_rfl) (by kernel_rfl), fnOK Try.func28 (by kernel_rfl) (by kernel_rfl), fnOK Try.func29 (by kernel_rfl) (by kernel_rfl), fnOK Try.func30 (by kernel_rfl) (by kernel_rfl), fnOK Try.func31 (by kernel_rfl) (by kernel_rfl), fnOK Try.func32 (by kernel_rfl) (by kernel_rfl), fnOK Try.func33 (by kernel_rfl) (by kernel_rfl), fnOK Try.func34 (by kernel_rfl) (by kernel_rfl), fnOK Try.func35 (by kernel_rfl) (by kernel_rfl), fnOK Try.func36 (by kernel_rfl) (by kernel_rfl), fnOK Try.func37 (by kernel_rfl) (by kernel_rfl), fnOK Try.func38 (by kernel_rfl) (by kernel_rfl), fnOK Try.func39 (by kernel_rfl) (by kernel_rfl), fnOK Try.func40 (by kernel_rfl) (by kernel_rfl), fnOK Try.func41 (by kernel_rfl) (by kernel_rfl), fnOK Try.func42 (by kernel_rfl) (by kernel_rfl), fnOK Try.func43 (by kernel_rfl) (by kernel_rfl), fnOK Try.func44 (by kernel_rfl) (by kernel_rfl), fnOK Try.func45 (by kernel_rfl) (by kernel_rfl), fnOK Try.func46 (by kernel_rfl) (by kernel_rfl), fnOK Try.func47 (by kernel_rfl) (by kernel_rfl), fnOK Try.func48 (by kernel_rfl) (by kernel_rfl), fnOK Try.func49 (by kernel_rfl) (by kernel_rfl), fnOK Try.func50 (by kernel_rfl) (by kernel_rfl), fnOK Try.func51 (by kernel_rfl) (by kernel_rfl), fnOK Try.func52 (by kernel_rfl) (by kernel_rfl), fnOK Try.func53 (by kernel_rfl) (by kernel_rfl), fnOK Try.func54 (by kernel_rfl) (by kernel_rfl), fnOK Try.func55 (by kernel_rfl) (by kernel_rfl), fnOK Try.func56 (by kernel_rfl) (by kernel_rfl), fnOK Try.func57 (by kernel_rfl) (by kernel_rfl), fnOK Try.func58 (by kernel_rfl) (by kernel_rfl), fnOK Try.func59 (by kernel_rfl) (by kernel_rfl), fnOK Try.func60 (by kernel_rfl) (by kernel_rfl), fnOK Try.func61 (by kernel_rfl) (by kernel_rfl), fnOK Try.func62 (by kernel_rfl) (by kernel_rfl), fnOK Try.func63 (by kernel_rfl) (by kernel_rfl), fnOK Try.func64 (by kernel_rfl) (by kernel_rfl), fnOK Try.func65 (by kernel_rfl) (by kernel_rfl), fnOK Try.func66 (by kernel_rfl) (by kernel_rfl), fnOK Try.func67 (by kernel_rfl) (by kernel_rfl), trivial⟩
theorem mixed : Try.prog.follows .mixedOrders = true := by kernel_rfl
end Sx
end Go.Proofs.Ytijgngiocmnakaa
