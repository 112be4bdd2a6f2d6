/- The reference's Filter says the same as topic.Filter. -/
import Derived.Test.YtjlohmhmnghjkaaDoorT2
namespace Go.Proofs.YtjlohmhmnghjkaaDoor
open Go.RowKit Go.Lib Go.Proofs.YtjlohmhmnghjkaaDoorW.PrintWords Go.Proofs.YtjlohmhmnghjkaaDoor.PTopicReads
set_option linter.unusedVariables false
set_option linter.unusedSimpArgs false

theorem signs_f (s : ByteArray) (hs : s.size ≤ 1000000) (k : Nat) (hk : s.size < k) : switchboardref10_signs.f k s = some (signsB s) :=
  signs_l0 s hs s.size 0 k (by omega) (by omega) (Lib.NoAny.zero _ _)
theorem text_f {s : ByteArray} {t : Bool} (h : TextW s t) (hs : s.size ≤ 65535) (k : Nat) (hk : 2 * s.size + 30 ≤ k) : switchboardref10_text.f k s = some t := by
  obtain ⟨g, hg, _, ht⟩ := h.st
  unfold switchboardref10_text.f
  by_cases h0 : 0 < s.size
  · have hne : ¬ s.toList = [] := by
      intro e
      have := isEmpty_of s h0
      rw [e] at this
      exact absurd this (by decide)
    have hl := rlevels_f s (by omega) k (by omega)
    rw [if_neg hne, good_f (hg hs) hs k hk]
    rw [decide_eq_true h0, Bool.true_and] at ht
    cases g with
    | false =>
      simp only [Option.bind_some]
      rw [ht]
      rfl
    | true =>
      simp only [Option.bind_some, if_true, hl]
      rw [Bool.true_and] at ht
      have e : decide (((levelsOf s).length : Int) ≤ 32) = t := by rw [ht, levelsOf_length]; exact decide_eq_decide.2 (by omega)
      rw [e]
  · have he : s.toList = [] := List.isEmpty_iff.1 (isEmpty_nil s (by omega))
    rw [if_pos he]
    rw [decide_eq_false h0] at ht
    rw [ht]
    rfl
theorem rdOf_at (L : List ByteArray) (j : Nat) (h : j < L.length) : rdOf ByteArray.empty L (j : Int) = L[j] := by
  unfold rdOf
  rw [Int.toNat_natCast, List.getD_eq_getElem?_getD, List.getElem?_eq_getElem h]
  rfl
theorem filter_l0 (s : ByteArray) (t : Bool) (hs : s.size ≤ 65535) (ht : TextW s t) (L : List ByteArray) (hL : ∀ x ∈ L, x.size ≤ 65535) (hn : L.length ≤ 65536) : ∀ r j k : Nat, j + r = L.length → 2 * s.size + 65600 + r ≤ k →
    switchboardref10_Filter.l0 k s L L (L.length : Int) (j : Int) = some (t && okL (L.drop j))
  | 0, j, k, hj, hk => by
    obtain ⟨k, rfl⟩ : ∃ q, k = q + 1 := ⟨k - 1, by omega⟩
    simp only [switchboardref10_Filter.l0]
    rw [if_neg (by omega), text_f ht hs k (by omega), List.drop_eq_nil_of_le (by omega)]
    simp [okL]
  | r + 1, j, k, hj, hk => by
    obtain ⟨k, rfl⟩ : ∃ q, k = q + 1 := ⟨k - 1, by omega⟩
    have hlt : j < L.length := by omega
    have hx := hL L[j] (List.getElem_mem hlt)
    have e1 : wrap64 ((j : Int) + 1) = ((j + 1 : Nat) : Int) := by rw [w64 (by omega) (by omega)]; push_cast; rfl
    have e2 : wrap64 ((L.length : Int) - 1) = (L.length : Int) - 1 := w64 (by omega) (by omega)
    have ih := filter_l0 s t hs ht L hL hn r (j + 1) k (by omega) (by omega)
    simp only [switchboardref10_Filter.l0, rdOf_at L j hlt, e1, e2]
    rw [if_pos (by omega), if_pos (by omega), if_pos (by omega), signs_f L[j] (by omega) k (by omega), List.drop_eq_getElem_cons hlt]
    simp only [Option.bind_some, ih, okL, List.length_drop]
    generalize L[j] = x at hx
    unfold levelOk
    cases hsg : signsB x with
    | false => simp
    | true =>
      rw [if_pos rfl]
      by_cases h43 : x.toList = [43]
      · rw [if_pos h43, beq_iff_eq.2 h43]
        simp
      · rw [if_neg h43, beq_eq_false_iff_ne.2 h43]
        by_cases h35 : x.toList = [35]
        · rw [if_pos h35, beq_iff_eq.2 h35]
          by_cases hl : j + 1 = L.length
          · rw [if_neg (by omega), show L.length - (j + 1) = 0 by omega]
            simp
          · rw [if_pos (by omega), show ((L.length - (j + 1)) == 0) = false from beq_eq_false_iff_ne.2 (by omega)]
            simp
        · rw [if_neg h35, beq_eq_false_iff_ne.2 h35]
          simp
theorem filter_f {s : ByteArray} {b : Bool} (h : FilterW s b) (hs : s.size ≤ 65535) (k : Nat) (hk : 3 * s.size + 65700 ≤ k) : switchboardref10_Filter.f k s = some b := by
  obtain ⟨t, ht, rfl⟩ := h.st
  have hlen := levelsOf_length s
  have hc : Lib.countByte s.data.toList 47 ≤ s.size := by rw [Lib.size_eq]; exact List.count_le_length
  unfold switchboardref10_Filter.f
  rw [rlevels_f s (by omega) k (by omega)]
  simp only [Option.bind_some]
  have := filter_l0 s t hs ht (levelsOf s) (fun x hx => by have := levels_piece s x hx; omega) (by omega) (levelsOf s).length 0 k (by omega) (by omega)
  rw [List.drop_zero] at this
  exact this
end Go.Proofs.YtjlohmhmnghjkaaDoor
