/- Regions that draw their order: whatever order is drawn. No condition. -/
import Derived.Test.YtmmejomalfjcnaaSxDraw5
namespace Go.Proofs.Ytmmejomalfjcnaa
open Go.RowKit
set_option linter.unusedVariables false
set_option linter.unusedSimpArgs false
namespace Sx
variable {P : Program} {W : World} {F : Nat → Prop} {ρ ρ' ρ0 : Num} {s s' : SS} {a : Act} {w : World} {cx : Ctx}

theorem apartRows_puts {x y : Rec} (h : apartRows x y = true) {b : Nat} (hx : touch x.puts b = true) : touch y.puts b = false ∧ b ∉ y.rds := by
  unfold apartRows at h
  simp only [Bool.and_eq_true, List.all_eq_true] at h
  unfold touch at hx
  simp only [List.any_eq_true] at hx
  obtain ⟨p, hp, hb⟩ := hx
  obtain rfl := Nat.eq_of_beq_eq_true hb
  have := h.1 p hp
  simp only [Bool.not_eq_true'] at this
  refine ⟨this.1, fun hm => ?_⟩
  have h2 := this.2
  rw [List.any_eq_false] at h2
  exact h2 _ hm (Nat.beq_refl _)
theorem apartRows_rds {x y : Rec} (h : apartRows x y = true) {b : Nat} (hy : touch y.puts b = true) : b ∉ x.rds := by
  unfold apartRows at h
  simp only [Bool.and_eq_true, List.all_eq_true] at h
  unfold touch at hy
  simp only [List.any_eq_true] at hy
  obtain ⟨p, hp, hb⟩ := hy
  obtain rfl := Nat.eq_of_beq_eq_true hb
  intro hm
  have h2 := h.2 p hp
  simp only [Bool.not_eq_true'] at h2
  rw [List.any_eq_false] at h2
  exact h2 _ hm (Nat.beq_refl _)

theorem draw_any (hx : CxOK P cx) {all : Array Oper} {recs : List Rec} (hf : Facts cx all all.toList recs s.rows.length ⟨s.tm, s.rows ++ List.replicate (countNew all.toList) none⟩) (hB : drawOK all recs = true)
    (hs1 : ∀ d sv, s.tm.lookup d = some sv → sv = .top ∨ okd W F s.rows.length sv) (hs2 : ∀ (i : Nat) (x : Row), s.rows[i]? = some (some x) → okdL W F s.rows.length x.cs)
    {Q : Exit → Act → World → Prop} (hQ : ∀ ρ' a w, Sat W F cx.nt ρ' (recs.foldl applyRec ⟨s.tm, s.rows ++ List.replicate (countNew all.toList) none⟩) a w → (∀ i, i < s.rows.length → ρ' i = ρ i) → Q .normal a w) :
    ∀ (fuel : Nat) (listed : Array Bool) (a : Act) (w : World) (ρ' : Num), listed.size = all.size → left all.size listed ≤ fuel →
      (∀ i o, all[i]? = some o → listed.getD i false = true → ∀ e ∈ bindsOn o, listed.getD e false = true) →
      Sat W F cx.nt ρ' (stF (fun i => listed.getD i false) 0 recs ⟨s.tm, s.rows ++ List.replicate (countNew all.toList) none⟩) a w → (∀ i, i < s.rows.length → ρ' i = ρ i) → wpAny P .any all Q fuel listed a w := by
  have hget := hf.get
  obtain ⟨hlen, hfact⟩ := hget
  simp only [drawOK, Bool.and_eq_true] at hB
  obtain ⟨⟨⟨_, hedge⟩, _⟩, hpairs⟩ := hB
  have hlen : recs.length = all.size := by simpa using hlen
  have hedges : ∀ (i : Nat) (o : Oper), all[i]? = some o → ∀ e ∈ bindsOn o, e < i := by
    intro i o ho e he
    have := edgesB_get hedge i o (by simpa using ho) e he
    omega
  have hBl : (befs all.toList []).length = all.size := by rw [befs_len]; simp
  have hBi : ∀ (i : Nat) (o : Oper), all[i]? = some o → (befs all.toList [])[i]? = some (maskOf ((befs all.toList []).take i) (bindsOn o)) := by
    intro i o ho
    have := befs_get all.toList [] i o (by simpa using ho)
    simpa using this
  have hz : ∀ (i : Nat) (o : Oper) (r : Rec) (m : Nat), all[i]? = some o → recs[i]? = some r → (befs all.toList [])[i]? = some m → (zip3 all.toList recs (befs all.toList []))[i]? = some (o, r, m) :=
    fun i o r m h1 h2 h3 => zip3_get (by simpa using h1) h2 h3
  -- what is before an operation that may come up has come up
  have trans : ∀ (listed : Array Bool), (∀ i o, all[i]? = some o → listed.getD i false = true → ∀ e ∈ bindsOn o, listed.getD e false = true) →
      ∀ (i : Nat) (o : Oper) (m : Nat), all[i]? = some o → (befs all.toList [])[i]? = some m → (∀ e ∈ bindsOn o, listed.getD e false = true) → ∀ j, m.testBit j = true → listed.getD j false = true := by
    intro listed hdc i
    induction i using Nat.strongRecOn with
    | _ i ih =>
      intro o m ho hm he j hj
      rw [hBi i o ho] at hm
      cases hm
      obtain ⟨e, he1, he2⟩ := (maskOf_bit _ j _).1 hj
      rcases he2 with rfl | he2
      · exact he e he1
      · have hei := hedges i o ho e he1
        have hlt : e < all.size := by have := (Array.getElem?_eq_some_iff.1 ho).1; omega
        have hoe : all[e]? = some all[e] := by simp [hlt]
        have hle := he e he1
        refine ih e hei all[e] _ hoe (hBi e _ hoe) (hdc e _ hoe hle) j ?_
        have : ((befs all.toList []).take i).getD e 0 = maskOf ((befs all.toList []).take e) (bindsOn all[e]) := by
          simp only [List.getD]
          rw [List.getElem?_take_of_lt hei, hBi e _ hoe]
          rfl
        rw [this] at he2
        exact he2
  have bitlt : ∀ (i : Nat) (o : Oper) (m : Nat), all[i]? = some o → (befs all.toList [])[i]? = some m → ∀ j, m.testBit j = true → j < i := by
    intro i
    induction i using Nat.strongRecOn with
    | _ i ih =>
      intro o m ho hm j hj
      rw [hBi i o ho] at hm
      cases hm
      obtain ⟨e, he1, he2⟩ := (maskOf_bit _ j _).1 hj
      have hei := hedges i o ho e he1
      rcases he2 with rfl | he2
      · exact hei
      · have hlt : e < all.size := by have := (Array.getElem?_eq_some_iff.1 ho).1; omega
        have hoe : all[e]? = some all[e] := by simp [hlt]
        have : ((befs all.toList []).take i).getD e 0 = maskOf ((befs all.toList []).take e) (bindsOn all[e]) := by
          simp only [List.getD]
          rw [List.getElem?_take_of_lt hei, hBi e _ hoe]
          rfl
        rw [this] at he2
        have := ih e hei all[e] _ hoe (hBi e _ hoe) j he2
        omega
  have final : ∀ (listed : Array Bool) (a : Act) (w : World) (ρ' : Num), (∀ i, i < all.size → listed.getD i false = true) →
      Sat W F cx.nt ρ' (stF (fun i => listed.getD i false) 0 recs ⟨s.tm, s.rows ++ List.replicate (countNew all.toList) none⟩) a w → (∀ i, i < s.rows.length → ρ' i = ρ i) → Q .normal a w := by
    intro listed a w ρ' hall st hρ
    have e := stF_prefix all.size recs 0 (⟨s.tm, s.rows ++ List.replicate (countNew all.toList) none⟩ : SS)
    rw [Nat.sub_zero, List.take_of_length_le (by omega)] at e
    have hj : ∀ j (x : Rec), recs[j]? = some x → decide (j < all.size) = listed.getD j false := by
      intro j x hx
      have hlt : j < recs.length := (List.getElem?_eq_some_iff.1 hx).1
      rw [hall j (by omega)]
      simp; omega
    refine hQ ρ' a w (st.of_same (fun t => ?_) (fun b => ?_)) hρ
    · rw [← e, stF_tm, stF_tm, lastD_congr (S' := fun i => listed.getD i false) fun j x hx _ => by simpa using hj j x hx]
    · rw [← e, stF_rows, stF_rows, lastP_congr (S' := fun i => listed.getD i false) fun j x hx _ => by simpa using hj j x hx]
  intro fuel
  induction fuel with
  | zero =>
    intro listed a w ρ' hsz hleft hdc st hρ
    have hall : ∀ i, i < all.size → listed.getD i false = true := by
      intro i hi
      unfold left at hleft
      have h0 : (List.range all.size).countP (fun i => !(listed.getD i false)) = 0 := by omega
      rw [List.countP_eq_zero] at h0
      have := h0 i (by simpa using hi)
      simpa using this
    constructor
    · apply List.eq_nil_iff_forall_not_mem.2
      intro i hi
      obtain ⟨h1, h2, _⟩ := ready_spec hi
      have := hall i h1
      have hlt : i < listed.size := by omega
      simp [Array.getD, hlt] at h2 this
      rw [h2] at this
      cases this
    · exact final listed a w ρ' hall st hρ
  | succ fuel ih =>
    intro listed a w ρ' hsz hleft hdc st hρ
    constructor
    · intro hnil
      refine final listed a w ρ' (fun i => ?_) st hρ
      induction i using Nat.strongRecOn with
      | _ i ihi =>
        intro hi
        cases hl : listed.getD i false with
        | true => rfl
        | false =>
          exfalso
          have hlt : i < listed.size := by omega
          have ho : all[i]? = some all[i] := by simp [hi]
          have hm := ready_of (listed := listed) ho (by simp [Array.getD, hlt] at hl ⊢; exact hl) (fun e he => by have := hedges i _ ho e he; exact ihi e this (by omega))
          rw [hnil] at hm
          cases hm
    · intro i hi
      obtain ⟨hin, hli', o, ho, he⟩ := ready_spec hi
      have hlt : i < listed.size := by omega
      have hli : listed.getD i false = false := by simp [Array.getD, hlt] at hli' ⊢; exact hli'
      obtain ⟨r, hr, hfct⟩ := hfact i o (by simpa using ho)
      have hmi := hBi i o ho
      -- operations that are not apart from it: those before it in the text are just those that have come up
      have agree : ∀ j (x : Rec), recs[j]? = some x → (j ≠ i → ∀ oj, all[j]? = some oj → x.dst = oj.dst → ¬ (o.apart all oj = true ∧ apartRows r x = true)) → decide (j < i) = listed.getD j false := by
        intro j x hxj hc
        by_cases hji : j = i
        · subst hji; rw [hli]; simp
        · have hjn : j < all.size := by have := (List.getElem?_eq_some_iff.1 hxj).1; omega
          have hoj : all[j]? = some all[j] := by simp [hjn]
          obtain ⟨x', hx', hfj⟩ := hfact j all[j] (by simp [hjn])
          rw [hxj] at hx'; cases hx'
          have hmj := hBi j _ hoj
          have hp := (allPairs_get hpairs i _ (hz i o r _ ho hr hmi) j hjn).1
          unfold pairB at hp
          rw [hz j _ x _ hoj hxj hmj] at hp
          simp only [Nat.zero_add] at hp
          have hb1 : Nat.beq i j = false := by cases h : Nat.beq i j with
            | false => rfl
            | true => exact absurd (Nat.eq_of_beq_eq_true h).symm hji
          rw [hb1] at hp
          simp only [cond_false] at hp
          have hcon := hc hji all[j] hoj hfj.1
          cases hbits : (Nat.testBit (maskOf ((befs all.toList []).take j) (bindsOn all[j])) i || Nat.testBit (maskOf ((befs all.toList []).take i) (bindsOn o)) j) with
          | false =>
            rw [hbits] at hp
            simp only [cond_false, Bool.and_eq_true] at hp
            exact absurd hp hcon
          | true =>
            simp only [Bool.or_eq_true] at hbits
            rcases hbits with h | h
            · have hij := bitlt j _ _ hoj hmj i h
              cases hlj : listed.getD j false with
              | false => simp; omega
              | true =>
                have := trans listed hdc j _ _ hoj hmj (hdc j _ hoj hlj) i h
                rw [hli] at this; cases this
            · have hji2 := bitlt i o _ ho hmi j h
              rw [trans listed hdc i o _ ho hmi he j h]
              simp; exact hji2
      have epre := stF_prefix i recs 0 (⟨s.tm, s.rows ++ List.replicate (countNew all.toList) none⟩ : SS)
      rw [Nat.sub_zero] at epre
      have hfS : Fact cx all (s.rows.length + countNew (all.toList.take i)) (stF (fun i => listed.getD i false) 0 recs ⟨s.tm, s.rows ++ List.replicate (countNew all.toList) none⟩) o r := by
        refine hfct.congr (fun t ht => ?_) (fun c hc => ?_)
        · rw [← epre, stF_tm, stF_tm, lastD_congr (S' := fun i => listed.getD i false) fun j x hxj hd => ?_]
          simp only [Nat.zero_add]
          refine agree j x hxj fun _ oj hoj hdd hap => ?_
          exact (Oper.apart_spec hap.1).2.2 t (by rw [← hdd]; exact hd) ht
        · unfold rowOf
          rw [← epre, stF_rows, stF_rows, lastP_congr (S' := fun i => listed.getD i false) fun j x hxj hd => ?_]
          simp only [Nat.zero_add]
          refine agree j x hxj fun _ oj hoj hdd hap => ?_
          exact apartRows_rds hap.2 hd hc
      have hb0 : s.rows.length ≤ s.rows.length + countNew (all.toList.take i) := Nat.le_add_right _ _
      have newj : ∀ b, r.new = some b → noMPuts b r.puts = true ∧ ∀ j (y : Rec), recs[j]? = some y → listed.getD j false = true → noMRec b y = true ∧ touch y.puts b = false := by
        intro b hn
        have key : ∀ j, j < all.size → newB (zip3 all.toList recs (befs all.toList [])) i (o, r, maskOf ((befs all.toList []).take i) (bindsOn o)) j = true := fun j hj => by
          have := (allPairs_get hpairs i _ (hz i o r _ ho hr hmi) j hj).2
          rwa [Nat.zero_add] at this
        refine ⟨?_, fun j y hyj hlj => ?_⟩
        · have := key i hin
          unfold newB at this
          simp only [hn, Bool.and_eq_true] at this
          exact this.1
        · have hjn : j < all.size := by have := (List.getElem?_eq_some_iff.1 hyj).1; omega
          have hoj : all[j]? = some all[j] := by simp [hjn]
          have hmj := hBi j _ hoj
          have := key j hjn
          unfold newB at this
          simp only [hn, hz j _ y _ hoj hyj hmj, Bool.and_eq_true] at this
          have hcond : (Nat.beq i j || Nat.testBit (maskOf ((befs all.toList []).take j) (bindsOn all[j])) i) = false := by
            cases hq : (Nat.beq i j || Nat.testBit (maskOf ((befs all.toList []).take j) (bindsOn all[j])) i) with
            | false => rfl
            | true =>
              exfalso
              simp only [Bool.or_eq_true] at hq
              rcases hq with hq | hq
              · have := Nat.eq_of_beq_eq_true hq
                subst this
                rw [hli] at hlj; cases hlj
              · have := trans listed hdc j _ _ hoj hmj (hdc j _ hoj hlj) i hq
                rw [hli] at this; cases this
          rw [hcond] at this
          simpa using this.2
      refine draw_step hx ho st hfS ?_ ?_
      · intro hn
        obtain ⟨hput, hisn⟩ : r.new = some (s.rows.length + countNew (all.toList.take i)) ∧ isNew o.op = true := by
          rcases hfct.2.2 with ⟨_, hs⟩ | ⟨_, hs⟩
          · rcases hs with ⟨_, _, _, _, h4, _⟩ | ⟨_, _, _, _, _, _, _, _, _, _, _, h6⟩ | ⟨e, _, _, _, _, _, q6⟩
            · exact absurd h4 hn
            · exact absurd h6 hn
            · cases hq : isNew o.op with
              | true => rw [hq] at q6; exact ⟨q6, rfl⟩
              | false => rw [hq] at q6; exact absurd q6 hn
          · rw [hs] at hn; exact absurd rfl hn
        obtain ⟨n1, n2⟩ := newj _ hput
        have hcn := countNew_take (l := all.toList) (i := i) (by simpa using ho) hisn
        have hblt : s.rows.length + countNew (all.toList.take i) < s.rows.length + countNew all.toList := by omega
        refine ⟨⟨by rw [stF_len]; simp; exact hcn, ?_, fun j y hy => ?_⟩, fun d sv hd => ?_⟩
        · rw [stF_rows]
          have : lastP (fun i => listed.getD i false) (s.rows.length + countNew (all.toList.take i)) 0 recs = none := by
            cases hl : lastP (fun i => listed.getD i false) (s.rows.length + countNew (all.toList.take i)) 0 recs with
            | none => rfl
            | some y =>
              obtain ⟨j, z, h1, h2, h3⟩ := lastP_mem hl
              rw [Nat.zero_add] at h2
              have := (n2 j z h1 h2).2
              rw [touch_iff.2 ⟨y, h3⟩] at this
              cases this
          rw [this]
          simp only
          rw [List.getElem?_append_right (by omega), List.getElem?_replicate, if_pos (by omega)]
        · rw [stF_rows] at hy
          cases hl : lastP (fun i => listed.getD i false) j 0 recs with
          | some z =>
            rw [hl] at hy
            simp only at hy
            split at hy
            · cases hy
              obtain ⟨k, q, h1, h2, h3⟩ := lastP_mem hl
              rw [Nat.zero_add] at h2
              have := (n2 k q h1 h2).1
              unfold noMRec at this
              simp only [Bool.and_eq_true] at this
              exact noMPuts_get this.2 h3
            · cases hy
          | none =>
            rw [hl] at hy
            simp only at hy
            by_cases hjl : j < s.rows.length
            · rw [List.getElem?_append_left hjl] at hy
              exact okdL_noM hb0 (hs2 j y hy)
            · rw [List.getElem?_append_right (by omega), List.getElem?_replicate] at hy
              split at hy <;> cases hy
        · rw [stF_tm] at hd
          cases hl : lastD (fun i => listed.getD i false) d 0 recs with
          | some z =>
            rw [hl] at hd
            simp only at hd
            cases hd
            obtain ⟨k, q, h1, h2, h3⟩ := lastD_mem hl
            rw [Nat.zero_add] at h2
            have := (n2 k q h1 h2).1
            unfold noMRec at this
            simp only [Bool.and_eq_true] at this
            rw [h3] at this
            exact .inr this.1
          | none =>
            rw [hl] at hd
            simp only at hd
            rcases hs1 d sv hd with h | h
            · exact .inl h
            · exact .inr (okd_noM hb0 h)
      · intro ρ'' a' w' st' hρ''
        have hLi : (listed.setIfInBounds i true).getD i false = true := by simp [Array.getD, hlt]
        have hLj : ∀ j, j ≠ i → (listed.setIfInBounds i true).getD j false = listed.getD j false := fun j hj => by simp [Array.getElem?_setIfInBounds_ne (fun h => hj h.symm)]
        refine ih (listed.setIfInBounds i true) a' w' ρ'' (by simpa using hsz) (by have := left_set hin hsz hli; omega) ?_ (st'.of_same (fun t => ?_) (fun c => ?_)) (fun j hj => ?_)
        · intro j oj hoj hlj e hej
          have hup : listed.getD e false = true → (listed.setIfInBounds i true).getD e false = true := by
            intro h
            by_cases hei : e = i
            · subst hei; exact hLi
            · rw [hLj e hei]; exact h
          by_cases hji : j = i
          · subst hji
            rw [ho] at hoj; cases hoj
            exact hup (he e hej)
          · rw [hLj j hji] at hlj
            exact hup (hdc j oj hoj hlj e hej)
        · rw [applyRec_tm, stF_tm]
          by_cases hd : r.dst = some t
          · rw [if_pos hd, lastD_last hr hd (by rw [Nat.zero_add]; exact hLi) ?_]
            intro j x hxj hij hdx
            rw [Nat.zero_add, hLj j (by omega)]
            have := agree j x hxj fun _ oj hoj hdd hap => (Oper.apart_spec hap.1).2.1 t (by rw [← hfct.1]; exact hd) (by rw [← hdd]; exact hdx)
            rw [← this]
            simp; omega
          · rw [if_neg hd, stF_tm, lastD_congr (S' := fun i => listed.getD i false) fun j x hxj hdx => ?_]
            simp only [Nat.zero_add]
            refine hLj j ?_
            rintro rfl
            rw [hr] at hxj; cases hxj
            exact hd hdx
        · rw [applyRec_rows, stF_rows]
          cases hp : lastPut r.puts c with
          | none =>
            simp only
            rw [stF_rows, lastP_congr (S' := fun i => listed.getD i false) fun j x hxj hdx => ?_]
            simp only [Nat.zero_add]
            refine hLj j ?_
            rintro rfl
            rw [hr] at hxj; cases hxj
            obtain ⟨z, hz2⟩ := touch_iff.1 hdx
            rw [hp] at hz2; cases hz2
          | some x =>
            simp only
            rw [lastP_last hr hp (by rw [Nat.zero_add]; exact hLi) ?_]
            · simp only
              rw [stF_len]
            · intro j y hyj hij hty
              rw [Nat.zero_add, hLj j (by omega)]
              have := agree j y hyj fun _ oj hoj hdd hap => by
                have h2 := (apartRows_puts hap.2 (touch_iff.2 ⟨x, hp⟩)).1
                rw [h2] at hty; cases hty
              rw [← this]
              simp; omega
        · rw [hρ'' j (.inl (by omega))]
          exact hρ j hj
end Sx
end Go.Proofs.Ytmmejomalfjcnaa
