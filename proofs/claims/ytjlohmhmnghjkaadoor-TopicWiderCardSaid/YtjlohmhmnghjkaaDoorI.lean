/- switchboardref10.Name says the same as topic.Name. -/
import Derived.Test.YtjlohmhmnghjkaaDoorH
import Derived.Test.YtjlohmhmnghjkaaDoorQ5
namespace Go.Proofs.YtjlohmhmnghjkaaDoor
open Go.RowKit Go.Lib Go.Proofs.YtjlohmhmnghjkaaDoorW.PrintWords Go.Proofs.YtjlohmhmnghjkaaDoor.PTopicReads
set_option linter.unusedVariables false
set_option linter.unusedSimpArgs false

/-- How many slashes the bytes from a on have. -/
def slashes (s : ByteArray) (a : Nat) : Nat := (s.data.toList.drop a).count 47
theorem slashes_0 (s : ByteArray) : slashes s 0 = Lib.countByte s.data.toList 47 := rfl
theorem slashes_end (s : ByteArray) (a : Nat) (h : s.size ≤ a) : slashes s a = 0 := by
  unfold slashes
  rw [List.drop_of_length_le (by rw [← Lib.size_eq]; exact h)]
  rfl
theorem slashes_step (s : ByteArray) (a : Nat) (h : a < s.size) : slashes s a = slashes s (a + 1) + if byteAt s a = 47 then 1 else 0 := by
  unfold slashes
  rw [List.drop_eq_getElem_cons (by rw [← Lib.size_eq]; exact h), List.count_cons]
  congr 1
  have e : s.data.toList[a]'(by rw [← Lib.size_eq]; exact h) = s[a]'h := by
    have := Lib.data_getElem? s a h
    rw [List.getElem?_eq_getElem (by rw [← Lib.size_eq]; exact h)] at this
    exact Option.some.inj this
  rw [byteAt_of h, e]
  by_cases h2 : (s[a]'h) = 47
  · rw [h2]; rfl
  · rw [if_neg (by simpa using h2), if_neg (fun h3 : (s[a]).toNat = 47 => h2 (UInt8.toNat_inj.1 (h3.trans (show 47 = (47 : UInt8).toNat from rfl))))]
theorem levels_l0 (s : ByteArray) (hs : s.size ≤ 1000000) : ∀ r a k : Nat, ∀ out : List ByteArray, ∀ part : ByteArray, a + r = s.size → out.length ≤ a → part.size ≤ a → r < k → ∃ l, switchboardref10_Levels.l0 k s out part (a : Int) = some l ∧ l.length = out.length + slashes s a + 1 := by
  intro r
  induction r with
  | zero =>
    intro a k out part ha ho hp hk
    obtain ⟨k, rfl⟩ : ∃ j, k = j + 1 := ⟨k - 1, by omega⟩
    simp only [switchboardref10_Levels.l0]
    rw [if_neg (by omega), if_pos (by omega), slashes_end s a (by omega)]
    exact ⟨_, rfl, by simp⟩
  | succ r ih =>
    intro a k out part ha ho hp hk
    obtain ⟨k, rfl⟩ : ∃ j, k = j + 1 := ⟨k - 1, by omega⟩
    have e1 : wrap64 ((a : Int) + 1) = ((a + 1 : Nat) : Int) := by rw [w64 (by omega) (by omega)]; push_cast; rfl
    have hb := bt_nat s a (by omega)
    simp only [switchboardref10_Levels.l0, e1, hb]
    rw [if_pos (by omega), if_pos (by omega), slashes_step s a (by omega)]
    by_cases h47 : byteAt s a = 47
    · rw [if_pos (by omega), if_pos (by omega), if_pos h47]
      obtain ⟨l, e, hl⟩ := ih (a + 1) k (out ++ [part]) ⟨#[]⟩ (by omega) (by simp; omega) (by show 0 ≤ _; omega) (by omega)
      exact ⟨l, e, by rw [hl]; simp; omega⟩
    · have hz : (s.extract a (a + 1)).size = 1 := by rw [ByteArray.size_extract]; omega
      rw [if_neg (by omega), if_pos (by omega), if_pos (by omega), Int.toNat_natCast, Int.toNat_natCast, if_pos (by rw [hz]; omega), if_neg h47]
      obtain ⟨l, e, hl⟩ := ih (a + 1) k out (part ++ s.extract a (a + 1)) (by omega) (by omega) (by rw [ByteArray.size_append, hz]; omega) (by omega)
      exact ⟨l, e, by rw [hl]; omega⟩
theorem levels_f (s : ByteArray) (hs : s.size ≤ 1000000) (k : Nat) (hk : s.size < k) : ∃ l, switchboardref10_Levels.f k s = some l ∧ l.length = Lib.countByte s.data.toList 47 + 1 := by
  obtain ⟨l, e, hl⟩ := levels_l0 s hs s.size 0 k [] ⟨#[]⟩ (by omega) (Nat.le_refl _) (Nat.le_refl _) hk
  exact ⟨l, e, by rw [hl, slashes_0]; simp⟩

theorem signs_l0 (s : ByteArray) (hs : s.size ≤ 1000000) : ∀ r a k : Nat, a + r = s.size → r < k → Lib.NoAny s.data.toList plusHash a → switchboardref10_signs.l0 k s (a : Int) = some (signsB s) := by
  intro r
  induction r with
  | zero =>
    intro a k ha hk hno
    obtain ⟨k, rfl⟩ : ∃ j, k = j + 1 := ⟨k - 1, by omega⟩
    simp only [switchboardref10_signs.l0]
    rw [if_neg (by omega)]
    obtain rfl : a = s.size := by omega
    unfold signsB
    rw [Lib.indexAny_none (by rw [← Lib.size_eq]; exact hno)]
    rfl
  | succ r ih =>
    intro a k ha hk hno
    obtain ⟨k, rfl⟩ : ∃ j, k = j + 1 := ⟨k - 1, by omega⟩
    have e1 : wrap64 ((a : Int) + 1) = ((a + 1 : Nat) : Int) := by rw [w64 (by omega) (by omega)]; push_cast; rfl
    have hb := bt_nat s a (by omega)
    have hx := Lib.data_getElem? s a (by omega)
    have hba := byteAt_of (s := s) (k := a) (by omega)
    generalize (s[a]'(by omega)) = x at hx hba
    simp only [switchboardref10_signs.l0, e1, hb]
    rw [if_pos (by omega), if_pos (by omega)]
    have hit : plusHash.contains x = true → some true = some (signsB s) := by
      intro h
      unfold signsB
      rw [Lib.indexAny_hit hno hx h, decide_eq_true (by omega)]
    by_cases h1 : byteAt s a = 43
    · rw [if_pos (by omega)]
      have : x = 43 := UInt8.toNat_inj.1 (by rw [← hba, h1]; rfl)
      exact hit (by rw [this]; decide)
    · rw [if_neg (by omega)]
      by_cases h2 : byteAt s a = 35
      · rw [if_pos (by omega)]
        have : x = 35 := UInt8.toNat_inj.1 (by rw [← hba, h2]; rfl)
        exact hit (by rw [this]; decide)
      · rw [if_neg (by omega)]
        refine ih (a + 1) k (by omega) (by omega) (hno.succ hx ?_)
        unfold plusHash
        simp only [List.contains_cons, List.contains_nil, Bool.or_false, Bool.or_eq_false_iff, beq_eq_false_iff_ne]
        constructor
        · rintro rfl; exact h1 hba
        · rintro rfl; exact h2 hba
theorem name_f {s : ByteArray} {b : Bool} (h : NameW s b) (hs : s.size ≤ 65535) (k : Nat) (hk : 2 * s.size + 30 ≤ k) : switchboardref10_Name.f k s = some b := by
  obtain ⟨t, ⟨g, hg, _, ht⟩, rfl⟩ := h.st
  unfold switchboardref10_Name.f switchboardref10_text.f
  by_cases h0 : 0 < s.size
  · have hne : ¬ s.toList = [] := by
      intro e
      have := isEmpty_of s h0
      rw [e] at this
      exact absurd this (by decide)
    obtain ⟨l, hl, hll⟩ := levels_f s (by omega) k (by omega)
    have hsg : switchboardref10_signs.f k s = some (signsB s) := signs_l0 s (by omega) s.size 0 k (by omega) (by omega) (Lib.NoAny.zero _ _)
    rw [if_neg hne, good_f (hg hs) hs k hk]
    rw [decide_eq_true h0, Bool.true_and] at ht
    cases g with
    | false =>
      simp only [Option.bind_some]
      rw [ht]
      rfl
    | true =>
      simp only [Option.bind_some, if_true, hl, hll, hsg]
      rw [Bool.true_and] at ht
      have e : decide (((Lib.countByte s.data.toList 47 + 1 : Nat) : Int) ≤ 32) = t := by rw [ht]; exact decide_eq_decide.2 (by omega)
      rw [e]
      cases t <;> rfl
  · have he : s.toList = [] := by
      have := isEmpty_nil s (by omega)
      exact List.isEmpty_iff.1 this
    rw [if_pos he]
    rw [decide_eq_false h0] at ht
    rw [ht]
    rfl
end Go.Proofs.YtjlohmhmnghjkaaDoor
