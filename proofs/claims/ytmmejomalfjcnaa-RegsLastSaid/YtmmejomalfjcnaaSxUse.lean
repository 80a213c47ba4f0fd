/- Contracts by the symbolic executor; functions gone through in place. No condition. -/
import Derived.Test.YtmmejomalfjcnaaSxFn
namespace Go.Proofs.Ytmmejomalfjcnaa
open Go.RowKit
set_option linter.unusedVariables false
set_option linter.unusedSimpArgs false
namespace Sx
variable {P : Program} {W : World} {F : Nat → Prop} {ρ ρ' : Num} {w : World} {cx : Ctx}

/-- What is to be reckoned out: nothing but the kernel looks into it. -/
structure Ex (p : Prop) : Prop where
  out : p
theorem of_nf {p q : Prop} (h : q = p) (hp : p) : Ex q := ⟨h.symm ▸ hp⟩

/-- What reads somewhere reads there as long as nobody writes. -/
theorem Reads.now {k : IntKind} {v : Value} {xs : List Int} (h : Reads W F k v xs) (hf : Frm F W w) : Reads w (fun _ => False) k v xs := by
  rcases h with ⟨a, cap, h1, h2, h3⟩ | ⟨b, off, cap, rfl, h0, h1, h2, h3⟩
  · exact .inl ⟨a, cap, h1, h2, h3⟩
  · exact .inr ⟨b, off, cap, rfl, h0, Nat.lt_of_lt_of_le h1 hf.size, id, fun j hj => by rw [World.cell?_of_block (w := W) (hf.block b h1 h2)]; exact h3 j hj⟩
theorem ReadsS.now {sz m : Nat} {v : Value} {f : Nat → List Value} (h : ReadsS W F sz v m f) (hf : Frm F W w) : ReadsS w (fun _ => False) sz v m f := by
  refine ⟨h.1, ?_⟩
  rcases h.2 with ⟨a, cap, h1, h2, h3⟩ | ⟨b, off, cap, rfl, h0, h1, h2, h3⟩
  · exact .inl ⟨a, cap, h1, h2, h3⟩
  · exact .inr ⟨b, off, cap, rfl, h0, Nat.lt_of_lt_of_le h1 hf.size, id, fun e he j hj => by rw [World.cell?_of_block (w := W) (hf.block b h1 h2)]; exact h3 e he j hj⟩
mutual
theorem okd_shift (hf : Frm F W w) : ∀ {c : SV}, okd W F 0 c → okd w (fun _ => False) 0 c
  | .ptr _ _, h => h
  | .pte _ _ _, h => h
  | .sl _ _ _ _, h => h
  | .os _ _ _ _, h => h
  | .on _ _ _, h => h
  | .gpe _ _ _ _ _, h => h
  | .gp _ _, _ => trivial
  | .rd _ _ _, h => Reads.now h hf
  | .rda _ _ _ _, h => ⟨Reads.now h.1 hf, h.2⟩
  | .rs _ _ _ f, h => ⟨ReadsS.now h.1 hf, fun e he => okdL_shift hf (l := f e) (h.2 e he)⟩
  | .rsa _ _ _ f _ _, h => ⟨⟨ReadsS.now h.1.1 hf, fun e he => okdL_shift hf (l := f e) (h.1.2 e he)⟩, h.2⟩
  | .agg cs, h => okdL_shift hf (l := cs) h
  | .tup cs, h => okdL_shift hf (l := cs) h
  | .fn _ x y, h => ⟨okdL_shift hf (l := x) h.1, okdL_shift hf (l := y) h.2⟩
  | .lit _ _, _ | .litb _, _ | .top, _ | .int _ _, _ | .bool _, _ | .str _, _ | .val _, _ | .hnd _, _ | .ints _ _ _, _ => trivial
theorem okdL_shift (hf : Frm F W w) : ∀ {l : List SV}, okdL W F 0 l → okdL w (fun _ => False) 0 l
  | [], _ => trivial
  | c :: l, h => ⟨okd_shift hf h.1, okdL_shift hf h.2⟩
end
mutual
theorem okd_now {n : Nat} (hf : Frm F W w) : ∀ {c : SV}, okd W F n c → okB 0 c = true → okd w (fun _ => False) 0 c
  | .ptr i _, _, h => by simp [okB] at h
  | .pte i _ _, _, h => by simp [okB] at h
  | .sl i _ _ _, _, h => by simp [okB] at h
  | .os i _ _ _, _, h => by simp [okB] at h
  | .on i _ _, _, h => by simp [okB] at h
  | .gpe _ _ _ _ _, h, _ => h
  | .gp _ _, _, _ => trivial
  | .rd _ _ _, h, _ => Reads.now h hf
  | .rda _ _ _ _, h, _ => ⟨Reads.now h.1 hf, h.2⟩
  | .rs _ _ _ _, h, _ => ⟨ReadsS.now h.1 hf, fun e he => okdL_shift hf (h.2 e he)⟩
  | .rsa _ _ _ _ _ _, h, _ => ⟨⟨ReadsS.now h.1.1 hf, fun e he => okdL_shift hf (h.1.2 e he)⟩, h.2⟩
  | .agg cs, h, hb => okdL_now hf (l := cs) h (by simpa [okB] using hb)
  | .tup cs, h, hb => okdL_now hf (l := cs) h (by simpa [okB] using hb)
  | .fn _ x y, h, hb => by simp only [okB, Bool.and_eq_true] at hb; exact ⟨okdL_now hf (l := x) h.1 hb.1, okdL_now hf (l := y) h.2 hb.2⟩
  | .lit _ _, _, _ | .litb _, _, _ | .top, _, _ | .int _ _, _, _ | .bool _, _, _ | .str _, _, _ | .val _, _, _ | .hnd _, _, _ | .ints _ _ _, _, _ => trivial
theorem okdL_now {n : Nat} (hf : Frm F W w) : ∀ {l : List SV}, okdL W F n l → okBL 0 l = true → okdL w (fun _ => False) 0 l
  | [], _, _ => trivial
  | c :: l, h, hb => by simp only [okBL, Bool.and_eq_true] at hb; exact ⟨okd_now hf h.1 hb.1, okdL_now hf h.2 hb.2⟩
end

mutual
/-- A value without blocks, of which nothing is to be read. -/
def closedV : SV → Bool
  | .lit _ _ | .int _ _ | .litb _ | .bool _ | .str _ | .val _ | .hnd _ | .gp _ _ | .ints _ _ _ => true
  | .agg cs => closedL cs
  | .tup cs => closedL cs
  | .fn _ a b => closedL a && closedL b
  | _ => false
def closedL : List SV → Bool
  | [] => true
  | c :: cs => closedV c && closedL cs
end
mutual
theorem closed_okd (W : World) (F : Nat → Prop) (n : Nat) : ∀ {c : SV}, closedV c = true → okd W F n c
  | .agg cs, h => closedL_okd W F n (l := cs) (by simpa [closedV] using h)
  | .tup cs, h => closedL_okd W F n (l := cs) (by simpa [closedV] using h)
  | .fn _ x y, h => by simp only [closedV, Bool.and_eq_true] at h; exact ⟨closedL_okd W F n (l := x) h.1, closedL_okd W F n (l := y) h.2⟩
  | .lit _ _, _ | .litb _, _ | .int _ _, _ | .bool _, _ | .str _, _ | .val _, _ | .hnd _, _ | .gp _ _, _ | .ints _ _ _, _ => trivial
theorem closedL_okd (W : World) (F : Nat → Prop) (n : Nat) : ∀ {l : List SV}, closedL l = true → okdL W F n l
  | [], _ => trivial
  | c :: l, h => by simp only [closedL, Bool.and_eq_true] at h; exact ⟨closed_okd W F n h.1, closedL_okd W F n h.2⟩
end
theorem closed_den {c : SV} (h : closedV c = true) (ρ ρ' : Num) : den ρ c = den ρ' c :=
  (den_congr (W := default) (F := fun _ => False) (n := 0) (fun i hi => absurd hi (by omega)) (closed_okd default _ 0 h)).symm ▸ rfl
theorem closed_top {c : SV} (h : closedV c = true) : c ≠ .top := by rintro rfl; simp [closedV] at h

theorem MemOK.globs {rows : List (Option Row)} (h : MemOK W F ρ rows w) : Globs w (fun _ => False) := by
  intro g cs hg
  obtain ⟨h1, c, ty, fr, h2, h3⟩ := h.glob g cs hg
  exact ⟨id, c, ty, fr, by rw [h.frame.block g (Array.getElem?_eq_some_iff.1 h2).1 h1]; exact h2, h3⟩
/-- A contract of a function that only makes new memory. -/
theorem pure_intro (hm : P.follows .mixedOrders = true) (hc : CxOK P cx) {f : FuncId} {fn : Func} (hf : P.funcs[f]? = some fn) (fuel : Nat) {args : List SV} {v : SV} (ha : okBL 0 args = true) (hv : closedV v = true)
    (h : Ex (execFn cx fuel fn args [] fun r _ => eqv r v)) : PureSem P f args v := by
  have h := h.out
  intro W F ρ rows w hmem hargs
  refine ⟨closed_okd _ _ _ hv, closed_top hv, ?_⟩
  have hm0 : MemOK w (fun _ => False) ρ [] w := ⟨Frm.refl _ _, hmem.globs, fun i r h => by simp at h, fun i j r q h => by simp at h, fun i r h => by simp at h⟩
  refine (execFn_ok hm hc hf h w (fun _ => False) ρ w hm0 (okdL_now hmem.frame hargs ha)).mono ?_
  rintro e w' ⟨ρ', res, rows', hk, rfl, g1, g2, _, _⟩
  obtain ⟨e1, _⟩ := eqv_ok ρ' hk g1 (closed_top hv)
  exact ⟨by rw [e1, closed_den hv ρ' ρ], g2.frame⟩

/-- The plan for a function that is gone through: tests that must be, loops by invariants. -/
structure Plan where
  must : Nat → Option Bool := fun _ => none
  loop : Nat → Option LoopSpec := fun _ => none

/-- Functions gone through in place, so many calls deep. -/
def inl (T : Tab) (pure : FuncId → Option (List SV → Option (List Prop × SV))) (fns : FuncId → Option Func) (plan : FuncId → Plan) (fuel : Nat) : Nat → FuncId → Option Handler
  | 0, _ => none
  | n + 1, f => (fns f).map fun fn args rows k => execFn ⟨T, inl T pure fns plan fuel n, pure, (plan f).must, (plan f).loop, 0, 0⟩ fuel fn args rows k

def FnsOK (P : Program) (fns : FuncId → Option Func) : Prop := ∀ f fn, fns f = some fn → P.funcs[f]? = some fn ∧ ∀ args w, (callFunc f args).run P w = .ok (.enter f args) w
def PureOK (P : Program) (pure : FuncId → Option (List SV → Option (List Prop × SV))) : Prop :=
  ∀ f h, pure f = some h → (∀ args w, (callFunc f args).run P w = .ok (.enter f args) w) ∧ ∀ args ps v, h args = some (ps, v) → All ps → PureSem P f args v

def PEntry (P : Program) (f : FuncId) (h : List SV → Option (List Prop × SV)) : Prop :=
  (∀ args w, (callFunc f args).run P w = .ok (.enter f args) w) ∧ ∀ args ps v, h args = some (ps, v) → All ps → PureSem P f args v
def AllP (P : Program) : List (Nat × (List SV → Option (List Prop × SV))) → Prop
  | [] => True
  | p :: l => PEntry P p.1 p.2 ∧ AllP P l
theorem pure_list : ∀ (l : List (Nat × (List SV → Option (List Prop × SV)))), AllP P l → PureOK P (fun f => List.lookup f l)
  | [], _, t, i, h => by simp at h
  | (d, v) :: l, hp, t, i, h => by
    have h : List.lookup t ((d, v) :: l) = some i := h
    rw [lookup_cons] at h
    by_cases hd : t = d
    · simp [hd] at h; subst h hd; exact hp.1
    · simp [hd] at h; exact pure_list l hp.2 t i h

theorem callFunc_ok {f : FuncId} {fn : Func} (hf : P.funcs[f]? = some fn) (hn : (fn.name == "runtime.NumGoroutine") = false) (hb : fn.body.isNone = false) (args : Array Value) (w : World) : (callFunc f args).run P w = .ok (.enter f args) w := by
  have h1 : fn.name ≠ "runtime.NumGoroutine" := by simpa using hn
  have h2 : fn.body ≠ none := by intro h; simp [h] at hb
  simp [callFunc, hf, h1, h2]

theorem inl_ok (hm : P.follows .mixedOrders = true) {T : Tab} {pure : FuncId → Option (List SV → Option (List Prop × SV))} {fns : FuncId → Option Func} {plan : FuncId → Plan} {fuel : Nat} (hT : TabOK P T) (hp : PureOK P pure) (hf : FnsOK P fns) :
    ∀ (n : Nat) (must : Nat → Option Bool) (loop : Nat → Option LoopSpec) (nt n0 : Nat), CxOK P ⟨T, inl T pure fns plan fuel n, pure, must, loop, nt, n0⟩
  | 0, must, loop, nt, n0 => ⟨hT, hp, fun f h hh => by simp [inl] at hh⟩
  | n + 1, must, loop, nt, n0 => by
    refine ⟨hT, hp, fun f h hh => ?_⟩
    simp only [inl, Option.map_eq_some_iff] at hh
    obtain ⟨fn, h1, rfl⟩ := hh
    obtain ⟨h2, h3⟩ := hf f fn h1
    exact ⟨h3, fun args rows k hk => execFn_ok hm (inl_ok hm hT hp hf n _ _ 0 0) h2 hk⟩
end Sx
end Go.Proofs.Ytmmejomalfjcnaa
