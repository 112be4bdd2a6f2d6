/- The reference's Split says the same as topic.Split. -/
import Derived.Test.YtjlohmhmnghjkaaDoorT7
namespace Go.Proofs.YtjlohmhmnghjkaaDoor
open Go.RowKit Go.Lib Go.Proofs.YtjlohmhmnghjkaaDoorW.PrintWords Go.Proofs.YtjlohmhmnghjkaaDoor.PTopicReads
set_option linter.unusedVariables false
set_option linter.unusedSimpArgs false

theorem slash_no {l : List UInt8} (h : 47 ∉ l) : Lib.indexByte l 47 = -1 := by
  have h1 := Lib.indexByte_ge l 47
  by_cases h2 : 0 ≤ Lib.indexByte l 47
  · obtain ⟨o, ho⟩ : ∃ o : Nat, Lib.indexByte l 47 = o := ⟨_, (Int.toNat_of_nonneg h2).symm⟩
    have := (slash_at ho).1
    exact absurd (by rw [this]; simp) h
  · omega
theorem slash_first {l : List UInt8} {j : Nat} (hj : j < l.length) (h : l[j] = 47) (hn : 47 ∉ l.take j) : Lib.indexByte l 47 = j := by
  by_cases h2 : 0 ≤ Lib.indexByte l 47
  · obtain ⟨o, ho⟩ : ∃ o : Nat, Lib.indexByte l 47 = o := ⟨_, (Int.toNat_of_nonneg h2).symm⟩
    obtain ⟨h3, h4⟩ := Lib.indexByte_some ho
    obtain ⟨hlt, he⟩ := List.getElem?_eq_some_iff.1 h3
    rcases Nat.lt_trichotomy o j with h5 | h5 | h5
    · refine absurd ?_ hn
      have hot : o < (l.take j).length := by rw [List.length_take]; omega
      have : (l.take j)[o] = 47 := by rw [List.getElem_take]; exact he
      rw [← this]
      exact List.getElem_mem hot
    · rw [ho, h5]
    · exact absurd (by rw [List.getElem?_eq_getElem hj, h]) (h4 j h5)
  · have h1 := Lib.indexByte_ge l 47
    exact absurd (List.getElem_mem hj) (by rw [h]; exact slash_none (by omega))
theorem toB_size (l : List UInt8) : (toB l).size = l.length := by rw [Lib.size_eq]; simp [toB]
theorem toB_nil_iff (l : List UInt8) : ((toB l).toList = ([] : List UInt8)) ↔ l = [] := by
  rw [Lib.toList_data]
  simp [toB]
theorem rsplit_l0 (s : ByteArray) (hs : s.size ≤ 65535) (h7 : 7 ≤ s.size) : ∀ r j k : Nat, j + r = (leftS s).data.toList.length → 47 ∉ (leftS s).data.toList.take j → 3 * s.size + 65701 + r ≤ k →
    switchboardref10_Split.l0 k s (toB ((leftS s).data.toList.take j)) ((7 + j : Nat) : Int) = some (if 0 ≤ Lib.indexByte (leftS s).data.toList 47 then partT (cutG (leftS s).data.toList) (cutF (leftS s).data.toList) else (⟨#[]⟩, ⟨#[]⟩, false)) := by
  have hL : (leftS s).data.toList = s.data.toList.drop 7 := by unfold leftS; rw [extract_from]
  have hlen : (leftS s).data.toList.length + 7 = s.size := by rw [hL, List.length_drop, ← Lib.size_eq]; omega
  intro r
  induction r with
  | zero =>
    intro j k hj hno hk
    obtain ⟨k, rfl⟩ : ∃ q, k = q + 1 := ⟨k - 1, by omega⟩
    rw [List.take_of_length_le (by omega)] at hno ⊢
    rw [slash_no hno, if_neg (by decide)]
    simp only [switchboardref10_Split.l0]
    rw [if_neg (by omega)]
  | succ r ih =>
    intro j k hj hno hk
    obtain ⟨k, rfl⟩ : ∃ q, k = q + 1 := ⟨k - 1, by omega⟩
    have hjl : j < (leftS s).data.toList.length := by omega
    have hlt : 7 + j < s.size := by omega
    have e1 : wrap64 (((7 + j : Nat) : Int) + 1) = ((7 + (j + 1) : Nat) : Int) := by rw [w64 (by omega) (by omega)]; push_cast; omega
    have hb := bt_nat s (7 + j) hlt
    have hba := byteAt_of (s := s) (k := 7 + j) hlt
    have hd : (leftS s).data.toList[j] = s[7 + j]'hlt := by
      have h1 := Lib.data_getElem? s (7 + j) hlt
      have h2 : (leftS s).data.toList[j]? = s.data.toList[7 + j]? := by rw [hL, List.getElem?_drop]
      rw [h1, List.getElem?_eq_getElem hjl] at h2
      exact Option.some.inj h2
    simp only [switchboardref10_Split.l0, e1, hb]
    rw [if_pos (by omega), if_pos (by omega)]
    by_cases h47 : byteAt s (7 + j) = 47
    · have hx : (leftS s).data.toList[j] = 47 := by rw [hd]; exact UInt8.toNat_inj.1 (by rw [← hba, h47]; rfl)
      have hix := slash_first hjl hx hno
      have hG : cutG (leftS s).data.toList = toB ((leftS s).data.toList.take j) := by unfold cutG; rw [hix, Int.toNat_natCast]
      have hF : s.extract (7 + (j + 1)) s.size = cutF (leftS s).data.toList := string_eq_of (by
        rw [extract_from, List.toList_toArray]
        unfold cutF toB
        rw [hix, Int.toNat_natCast, List.toList_toArray, hL, List.drop_drop])
      have hgs : (toB ((leftS s).data.toList.take j)).size ≤ s.size := by rw [toB_size, List.length_take]; omega
      have hfs : (cutF (leftS s).data.toList).size ≤ s.size := by have := cutF_size (leftS s).data.toList; omega
      have hR : (if 0 ≤ Lib.indexByte (leftS s).data.toList 47 then partT (cutG (leftS s).data.toList) (cutF (leftS s).data.toList) else (⟨#[]⟩, ⟨#[]⟩, false)) = partT (toB ((leftS s).data.toList.take j)) (cutF (leftS s).data.toList) := by rw [if_pos (by omega), hG]
      rw [hR, if_pos (by omega), if_pos (by omega), if_pos (by omega), Int.toNat_natCast, hF]
      clear hR hG hix
      generalize toB ((leftS s).data.toList.take j) = g at hgs
      generalize cutF (leftS s).data.toList = f at hfs
      unfold partT
      by_cases hg0 : 0 < g.size
      · have hne : ¬ g.toList = [] := by
          intro e
          have := isEmpty_of g hg0
          rw [e] at this
          exact absurd this (by decide)
        rw [if_neg hne, signs_f g (by omega) k (by omega), decide_eq_true hg0]
        simp only [Option.bind_some]
        cases signsB g with
        | true => simp
        | false =>
          rw [if_neg (by decide), good_fB g (by omega) k (by omega)]
          simp only [Option.bind_some]
          cases goodB g with
          | false => simp
          | true =>
            rw [if_pos rfl, filter_fB f (by omega) k (by omega)]
            simp only [Option.bind_some]
            cases filterB f <;> simp
      · have he : g.toList = [] := List.isEmpty_iff.1 (isEmpty_nil g (by omega))
        rw [if_pos he, decide_eq_false hg0]
        simp
    · have hx : ¬ (leftS s).data.toList[j] = 47 := fun e => h47 (by rw [hba, ← hd, e]; rfl)
      have hz : (s.extract (7 + j) (7 + (j + 1))).size = 1 := by rw [ByteArray.size_extract]; omega
      have hps : (toB ((leftS s).data.toList.take j)).size = j := by rw [toB_size, List.length_take]; omega
      have ee : toB ((leftS s).data.toList.take j) ++ s.extract (7 + j) (7 + (j + 1)) = toB ((leftS s).data.toList.take (j + 1)) := string_eq_of (by
        rw [ByteArray.data_append]
        simp only [toB, Array.toList_append, Lib.extract_eq]
        rw [show 7 + (j + 1) - (7 + j) = 1 by omega, ← List.drop_drop, ← hL, List.drop_eq_getElem_cons hjl, List.take_succ_eq_append_getElem hjl]
        rfl)
      rw [if_neg (by omega), if_pos (by omega), if_pos (by omega), Int.toNat_natCast, Int.toNat_natCast, if_pos (by rw [hz, hps]; omega), ee]
      refine ih (j + 1) k (by omega) ?_ (by omega)
      rw [List.take_succ_eq_append_getElem hjl]
      intro hm
      rcases List.mem_append.1 hm with hm | hm
      · exact hno hm
      · exact hx (List.mem_singleton.1 hm).symm
theorem split_fB (s : ByteArray) (hs : s.size ≤ 65535) (k : Nat) (hk : 4 * s.size + 65800 ≤ k) : switchboardref10_Split.f k s = some (splitT s) := by
  obtain ⟨k, rfl⟩ : ∃ q, k = q + 1 := ⟨k - 1, by omega⟩
  have hpre : preB.toList = ([36, 115, 104, 97, 114, 101, 47] : List UInt8) := by rw [Lib.toList_data]; rfl
  have hplain : isShared s = false → switchboardref10_Split.j0 (k + 1) s true = some (splitT s) := fun h => by
    simp only [switchboardref10_Split.j0, if_true]
    rw [filter_fB s hs k (by omega)]
    unfold splitT
    rw [h]
    rfl
  unfold switchboardref10_Split.f
  by_cases h7 : s.size < 7
  · rw [if_pos (by omega)]
    exact hplain (by unfold isShared; rw [decide_eq_false (by omega)]; rfl)
  · rw [if_neg (by omega), if_pos (by omega), if_pos (by omega)]
    cases hh : ((s.extract 0 7).toList == ([36, 115, 104, 97, 114, 101, 47] : List UInt8)) with
    | false =>
      rw [show ((s.extract 0 7).toList != ([36, 115, 104, 97, 114, 101, 47] : List UInt8)) = true by unfold bne; rw [hh]; rfl]
      exact hplain (by unfold isShared; rw [hpre, hh, Bool.and_false])
    | true =>
      rw [show ((s.extract 0 7).toList != ([36, 115, 104, 97, 114, 101, 47] : List UInt8)) = false by unfold bne; rw [hh]; rfl]
      have hsh : isShared s = true := by unfold isShared; rw [hpre, hh, decide_eq_true (by omega)]; rfl
      have hl := leftS_size s
      have := rsplit_l0 s hs (by omega) (leftS s).data.toList.length 0 k (by omega) (by simp) (by omega)
      simp only [switchboardref10_Split.j0, Bool.false_eq_true, if_false]
      rw [List.take_zero] at this
      unfold splitT
      rw [hsh, if_pos rfl, ← this]
      rfl
end Go.Proofs.YtjlohmhmnghjkaaDoor
