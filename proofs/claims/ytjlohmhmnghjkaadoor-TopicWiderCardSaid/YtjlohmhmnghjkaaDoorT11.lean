/- Names as filters: a name meets itself alone. -/
import Derived.Test.YtjlohmhmnghjkaaDoorTB
namespace Go.Proofs.YtjlohmhmnghjkaaDoor
open Go.RowKit Go.Lib Go.Proofs.YtjlohmhmnghjkaaDoorW.PrintWords Go.Proofs.YtjlohmhmnghjkaaDoor.PTopicReads
set_option linter.unusedVariables false
set_option linter.unusedSimpArgs false

theorem indexAny_no : ∀ (l chars : List UInt8), Lib.indexAny l chars = -1 → ∀ x ∈ l, chars.contains x = false := by
  intro l chars h x hx
  cases hc : chars.contains x with
  | false => rfl
  | true =>
    exfalso
    -- the first such byte
    have : ∀ (l : List UInt8), (∃ x ∈ l, chars.contains x = true) → 0 ≤ Lib.indexAny l chars := by
      intro l
      induction l with
      | nil => rintro ⟨x, hx, _⟩; cases hx
      | cons a l ih =>
        rintro ⟨x, hx, hc⟩
        by_cases ha : chars.contains a = true
        · have := Lib.indexAny_hit (s := a :: l) (chars := chars) (i := 0) (x := a) (Lib.NoAny.zero _ _) rfl ha
          rw [this]; decide
        · have ha' : chars.contains a = false := by simpa using ha
          rcases List.mem_cons.1 hx with rfl | hx
          · exact absurd hc ha
          · have h1 := ih ⟨x, hx, hc⟩
            have h2 : Lib.indexAny (a :: l) chars = if Lib.indexAny l chars == -1 then -1 else Lib.indexAny l chars + 1 := by
              rw [Lib.indexAny, ha']
              rfl
            rw [h2, if_neg (fun e => by have := beq_iff_eq.1 e; omega)]
            omega
    have := this l ⟨x, hx, hc⟩
    omega
theorem signsB_no {s : ByteArray} (h : signsB s = false) : ∀ x ∈ s.data.toList, plusHash.contains x = false := by
  refine indexAny_no _ _ ?_
  unfold signsB at h
  have h1 := of_decide_eq_false h
  have h2 := Lib.indexAny_ge plusHash s.data.toList
  omega
theorem signsB_of {s : ByteArray} (h : ∀ x ∈ s.data.toList, plusHash.contains x = false) : signsB s = false := by
  have := signsB_plain s.data.toList h
  rwa [show (⟨s.data.toList.toArray⟩ : ByteArray) = s from toB_list s] at this
theorem splitP_mem : ∀ (l p x : List UInt8), x ∈ splitP p l → ∀ y ∈ x, y ∈ p ∨ y ∈ l
  | [], p, x, hx, y, hy => by obtain rfl := List.mem_singleton.1 hx; exact .inl hy
  | b :: l, p, x, hx, y, hy => by
    unfold splitP at hx
    by_cases hb : b = 47
    · rw [if_pos hb] at hx
      rcases List.mem_cons.1 hx with rfl | hx
      · exact .inl hy
      · rcases splitP_mem l [] x hx y hy with h | h
        · cases h
        · exact .inr (List.mem_cons_of_mem _ h)
    · rw [if_neg hb] at hx
      rcases splitP_mem l _ x hx y hy with h | h
      · rcases List.mem_append.1 h with h | h
        · exact .inl h
        · obtain rfl := List.mem_singleton.1 h
          exact .inr (List.mem_cons_self)
      · exact .inr (List.mem_cons_of_mem _ h)
def unL : List (List UInt8) → List UInt8
  | [] => []
  | [x] => x
  | x :: y :: r => x ++ 47 :: unL (y :: r)
theorem unL_splitP : ∀ (l p : List UInt8), unL (splitP p l) = p ++ l
  | [], p => by simp [splitP, unL]
  | b :: l, p => by
    unfold splitP
    by_cases hb : b = 47
    · rw [if_pos hb]
      have h := unL_splitP l []
      cases hs : splitP [] l with
      | nil => exact absurd hs (splitP_ne l [])
      | cons y r =>
        rw [hs] at h
        show p ++ 47 :: unL (y :: r) = _
        rw [h, hb]
        rfl
    · rw [if_neg hb, unL_splitP l (p ++ [b])]
      simp
theorem levelsOf_inj {a b : ByteArray} (h : levelsOf a = levelsOf b) : a = b := by
  unfold levelsOf levelsL at h
  have h2 : splitP [] a.data.toList = splitP [] b.data.toList := List.map_inj_right (f := toB) (fun x y hxy => toB_inj hxy) |>.1 h
  have h3 := congrArg unL h2
  rw [unL_splitP, unL_splitP] at h3
  exact string_eq_of h3
/-- A level without a sign. -/
def plainX (x : ByteArray) : Prop := signsB x = false
theorem plainX_ne {x : ByteArray} (h : plainX x) : x.toList ≠ [43] ∧ x.toList ≠ [35] := by
  have := signsB_no h
  rw [← Lib.toList_data] at this
  refine ⟨fun e => ?_, fun e => ?_⟩
  · rw [e] at this; exact absurd (this 43 (by simp)) (by decide)
  · rw [e] at this; exact absurd (this 35 (by simp)) (by decide)
theorem levels_plain {s : ByteArray} (h : signsB s = false) : ∀ x ∈ levelsOf s, plainX x := by
  intro x hx
  obtain ⟨y, hy, rfl⟩ := List.mem_map.1 hx
  refine signsB_of fun z hz => signsB_no h z ?_
  have hz' : z ∈ y := by simpa [toB] using hz
  rcases splitP_mem _ _ _ hy z hz' with h | h
  · cases h
  · exact h
theorem okL_plain : ∀ (L : List ByteArray), (∀ x ∈ L, plainX x) → okL L = true
  | [], _ => rfl
  | x :: L, h => by
    unfold okL levelOk
    rw [okL_plain L fun y hy => h y (List.mem_cons_of_mem _ hy), h x List.mem_cons_self]
    simp
theorem toList_inj {a b : ByteArray} (h : a.toList = b.toList) : a = b := by
  rw [Lib.toList_data, Lib.toList_data] at h
  exact string_eq_of h
theorem meetsL_plain : ∀ (F N : List ByteArray), (∀ x ∈ F, plainX x) → (meetsL F N = true ↔ F = N)
  | [], [], _ => by simp [meetsL]
  | [], y :: N, _ => by simp [meetsL]
  | x :: F, N, h => by
    have hx := plainX_ne (h x List.mem_cons_self)
    unfold meetsL
    rw [if_neg (fun e => hx.2 e.1)]
    cases N with
    | nil => simp
    | cons y N =>
      simp only
      have ih := meetsL_plain F N fun z hz => h z (List.mem_cons_of_mem _ hz)
      by_cases hxy : x.toList = y.toList
      · rw [if_pos (.inr hxy), ih, toList_inj hxy]
        simp
      · rw [if_neg (fun e => e.elim hx.1 hxy)]
        simp only [Bool.false_eq_true, false_iff]
        intro e
        injection e with e1 _
        exact hxy (by rw [e1])
theorem signFirst_plain (L : List ByteArray) (h : ∀ x ∈ L, plainX x) : signFirst L = false := by
  cases L with
  | nil => rfl
  | cons x L =>
    have hx := plainX_ne (h x List.mem_cons_self)
    show ((x.toList == [43]) || (x.toList == [35])) = false
    rw [beq_eq_false_iff_ne.2 hx.1, beq_eq_false_iff_ne.2 hx.2]
    rfl
theorem name_match {a b : ByteArray} (ha : signsB a = false) : matchB a b = (a.toList == b.toList) := by
  have hp := levels_plain ha
  unfold matchB
  rw [signFirst_plain _ hp, Bool.and_false, if_neg (by decide)]
  have h := meetsL_plain (levelsOf a) (levelsOf b) hp
  by_cases hab : a = b
  · subst hab
    rw [h.2 rfl]
    simp
  · have h1 : meetsL (levelsOf a) (levelsOf b) = false := by
      cases hm : meetsL (levelsOf a) (levelsOf b) with
      | false => rfl
      | true => exact absurd (levelsOf_inj (h.1 hm)) hab
    rw [h1]
    exact (beq_eq_false_iff_ne.2 (fun e => hab (toList_inj e))).symm
theorem name_signs {a : ByteArray} (h : nameB a = true) : signsB a = false ∧ filterB a = true := by
  unfold nameB at h
  have h1 : textB a = true ∧ signsB a = false := by simpa using h
  refine ⟨h1.2, ?_⟩
  unfold filterB
  rw [h1.1, okL_plain _ (levels_plain h1.2)]
  rfl
end Go.Proofs.YtjlohmhmnghjkaaDoor
