/- Levels of a topic, as lists of bytes: what strings.Split and the reference's Levels give. -/
import Derived.Test.YtjlohmhmnghjkaaDoorI
import Derived.Lib.SplitLaws
import Derived.Lib.CutLaws
namespace Go.Proofs.YtjlohmhmnghjkaaDoor
open Go.RowKit Go.Lib Go.Proofs.YtjlohmhmnghjkaaDoorW.PrintWords Go.Proofs.YtjlohmhmnghjkaaDoor.PTopicReads
set_option linter.unusedVariables false
set_option linter.unusedSimpArgs false

theorem string_eq_of {a b : ByteArray} (h : a.data.toList = b.data.toList) : a = b := by
  cases a; cases b
  simp only at h
  congr
  exact Array.toList_inj.1 h
def toB (l : List UInt8) : ByteArray := ⟨l.toArray⟩
theorem toB_list (s : ByteArray) : toB s.data.toList = s := by
  cases s
  simp [toB]
theorem toB_inj {a b : List UInt8} (h : toB a = toB b) : a = b := by
  have := congrArg (fun s : ByteArray => s.data.toList) h
  simpa [toB] using this
def splitP : List UInt8 → List UInt8 → List (List UInt8)
  | part, [] => [part]
  | part, b :: l => if b = 47 then part :: splitP [] l else splitP (part ++ [b]) l
def levelsL (l : List UInt8) : List (List UInt8) := splitP [] l
def levelsOf (s : ByteArray) : List ByteArray := (levelsL s.data.toList).map toB
theorem splitP_hit : ∀ (a b p : List UInt8), 47 ∉ a → splitP p (a ++ 47 :: b) = (p ++ a) :: splitP [] b
  | [], b, p, _ => by simp [splitP]
  | x :: a, b, p, h => by
    have hx : ¬ x = 47 := fun e => h (by rw [e]; simp)
    rw [List.cons_append, splitP, if_neg hx, splitP_hit a b (p ++ [x]) (fun e => h (by simp [e]))]
    simp
theorem splitP_miss : ∀ (a p : List UInt8), 47 ∉ a → splitP p a = [p ++ a]
  | [], p, _ => by simp [splitP]
  | x :: a, p, h => by
    have hx : ¬ x = 47 := fun e => h (by rw [e]; simp)
    rw [splitP, if_neg hx, splitP_miss a (p ++ [x]) (fun e => h (by simp [e]))]
    simp
theorem splitP_ne : ∀ (l p : List UInt8), splitP p l ≠ []
  | [], p => by simp [splitP]
  | x :: l, p => by
    unfold splitP
    split
    · simp
    · exact splitP_ne l _
theorem splitP_length : ∀ (l p : List UInt8), (splitP p l).length = l.count 47 + 1
  | [], p => rfl
  | x :: l, p => by
    unfold splitP
    by_cases h : x = 47
    · rw [if_pos h, List.length_cons, splitP_length l [], h, List.count_cons_self]
    · rw [if_neg h, splitP_length l (p ++ [x]), List.count_cons_of_ne (by simpa using h)]
theorem levelsOf_length (s : ByteArray) : (levelsOf s).length = Lib.countByte s.data.toList 47 + 1 := by
  unfold levelsOf levelsL
  rw [List.length_map, splitP_length]
  rfl
/-- Where the first slash is. -/
theorem slash_at {l : List UInt8} {o : Nat} (h : Lib.indexByte l 47 = o) : l = l.take o ++ 47 :: l.drop (o + 1) ∧ 47 ∉ l.take o := by
  obtain ⟨h1, h2⟩ := Lib.indexByte_some h
  obtain ⟨hlt, he⟩ := List.getElem?_eq_some_iff.1 h1
  refine ⟨?_, fun hm => ?_⟩
  · rw [← he, ← List.drop_eq_getElem_cons hlt, List.take_append_drop]
  · obtain ⟨k, hk, hk2⟩ := List.mem_iff_getElem.1 hm
    rw [List.getElem_take] at hk2
    refine h2 k (by rw [List.length_take] at hk; omega) ?_
    rw [List.getElem?_eq_getElem (by rw [List.length_take] at hk; omega), hk2]
theorem slash_none {l : List UInt8} (h : Lib.indexByte l 47 = -1) : 47 ∉ l := fun hm => by
  obtain ⟨k, hk, hk2⟩ := List.mem_iff_getElem.1 hm
  exact Lib.indexByte_none h k (by rw [List.getElem?_eq_getElem hk, hk2])
theorem indexB_slash (s : ByteArray) : Lib.indexB s ⟨#[47]⟩ = Lib.indexByte s.data.toList 47 := Lib.index_one s.data.toList 47
theorem splitB_levels : ∀ (k : Nat) (s : ByteArray), Lib.countB s ⟨#[47]⟩ = k → Lib.splitB ⟨#[47]⟩ 0 k s = levelsOf s
  | 0, s, hk => by
    rcases Lib.indexB_cases s ⟨#[47]⟩ with hix | ⟨i, hix, _⟩
    · rw [Lib.splitB_zero]
      rw [indexB_slash] at hix
      unfold levelsOf levelsL
      rw [splitP_miss _ _ (slash_none hix)]
      simp [toB_list]
    · have := Lib.countB_hit s ⟨#[47]⟩ i (by decide) hix
      omega
  | k + 1, s, hk => by
    rcases Lib.indexB_cases s ⟨#[47]⟩ with hix | ⟨i, hix, hroom⟩
    · rw [Lib.countB_miss s _ hix] at hk; omega
    · rw [Lib.splitB_hit ⟨#[47]⟩ 0 k s i hix, splitB_levels k _ (by have := Lib.countB_hit s ⟨#[47]⟩ i (by decide) hix; omega)]
      rw [indexB_slash] at hix
      obtain ⟨h1, h2⟩ := slash_at hix
      have e1 : s.extract 0 (i + 0) = toB (s.data.toList.take i) := string_eq_of (by rw [Lib.extract_eq]; simp [toB])
      have e2 : (s.extract (i + (⟨#[47]⟩ : ByteArray).size) s.size).data.toList = s.data.toList.drop (i + 1) := by
        rw [show (⟨#[47]⟩ : ByteArray).size = 1 from rfl, extract_from]
      unfold levelsOf levelsL
      rw [e1, e2]
      conv => rhs; rw [h1, splitP_hit _ _ _ h2]
      simp
theorem split_levels (s : ByteArray) : Lib.splitB ⟨#[47]⟩ 0 (Lib.countB s ⟨#[47]⟩) s = levelsOf s := splitB_levels _ s rfl
theorem split_count (s : ByteArray) : Lib.countB s ⟨#[47]⟩ + 1 = (levelsOf s).length := by
  rw [← split_levels, Lib.splitB_all ⟨#[47]⟩ (by decide) 0 _ s rfl]
theorem rlevels_l0 (s : ByteArray) (hs : s.size ≤ 1000000) : ∀ r a k : Nat, ∀ out : List ByteArray, ∀ part : List UInt8, a + r = s.size → out.length ≤ a → part.length ≤ a → r < k → switchboardref10_Levels.l0 k s out (toB part) (a : Int) = some (out ++ (splitP part (s.data.toList.drop a)).map toB) := by
  intro r
  induction r with
  | zero =>
    intro a k out part ha ho hp hk
    obtain ⟨k, rfl⟩ : ∃ j, k = j + 1 := ⟨k - 1, by omega⟩
    simp only [switchboardref10_Levels.l0]
    rw [if_neg (by omega), if_pos (by omega), List.drop_eq_nil_of_le (by rw [← Lib.size_eq]; omega)]
    simp [splitP]
  | succ r ih =>
    intro a k out part ha ho hp hk
    obtain ⟨k, rfl⟩ : ∃ j, k = j + 1 := ⟨k - 1, by omega⟩
    have e1 : wrap64 ((a : Int) + 1) = ((a + 1 : Nat) : Int) := by rw [w64 (by omega) (by omega)]; push_cast; rfl
    have hb := bt_nat s a (by omega)
    have hlt : a < s.data.toList.length := by rw [← Lib.size_eq]; omega
    have hba := byteAt_of (s := s) (k := a) (by omega)
    have hd : s.data.toList[a]'hlt = s[a]'(by omega) := by
      have := Lib.data_getElem? s a (by omega)
      rw [List.getElem?_eq_getElem hlt] at this
      exact Option.some.inj this
    simp only [switchboardref10_Levels.l0, e1, hb]
    rw [if_pos (by omega), if_pos (by omega), List.drop_eq_getElem_cons hlt, splitP]
    by_cases h47 : byteAt s a = 47
    · have hx : s.data.toList[a]'hlt = 47 := by rw [hd]; exact UInt8.toNat_inj.1 (by rw [← hba, h47]; rfl)
      rw [if_pos (by omega), if_pos (by omega), if_pos hx]
      have := ih (a + 1) k (out ++ [toB part]) [] (by omega) (by simp; omega) (by simp) (by omega)
      rw [show (⟨#[]⟩ : ByteArray) = toB [] from rfl, this]
      simp
    · have hx : ¬ s.data.toList[a]'hlt = 47 := fun e => h47 (by rw [hba, ← hd, e]; rfl)
      have hz : (s.extract a (a + 1)).size = 1 := by rw [ByteArray.size_extract]; omega
      have hps : (toB part).size = part.length := by rw [Lib.size_eq]; simp [toB]
      rw [if_neg (by omega), if_pos (by omega), if_pos (by omega), Int.toNat_natCast, Int.toNat_natCast, if_pos (by rw [hz, hps]; omega), if_neg hx]
      have ee : toB part ++ s.extract a (a + 1) = toB (part ++ [s.data.toList[a]'hlt]) := string_eq_of (by
        rw [ByteArray.data_append]
        simp only [toB, Array.toList_append, Lib.extract_eq]
        congr 1
        rw [show a + 1 - a = 1 by omega, List.drop_eq_getElem_cons hlt]
        rfl)
      rw [ee]
      exact ih (a + 1) k out (part ++ [s.data.toList[a]'hlt]) (by omega) (by omega) (by simp; omega) (by omega)
theorem rlevels_f (s : ByteArray) (hs : s.size ≤ 1000000) (k : Nat) (hk : s.size < k) : switchboardref10_Levels.f k s = some (levelsOf s) := by
  have := rlevels_l0 s hs s.size 0 k [] [] (by omega) (Nat.le_refl _) (Nat.le_refl _) hk
  rw [List.nil_append, List.drop_zero] at this
  exact this
end Go.Proofs.YtjlohmhmnghjkaaDoor
