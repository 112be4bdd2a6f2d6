/- The reference's Match says the same as topic.Match. -/
import Derived.Test.YtjlohmhmnghjkaaDoorT4
namespace Go.Proofs.YtjlohmhmnghjkaaDoor
open Go.RowKit Go.Lib Go.Proofs.YtjlohmhmnghjkaaDoorW.PrintWords Go.Proofs.YtjlohmhmnghjkaaDoor.PTopicReads
set_option linter.unusedVariables false
set_option linter.unusedSimpArgs false

theorem meets_l0 (F N : List ByteArray) (hF : F.length ≤ 1000000) (hN : N.length ≤ 1000000) : ∀ r j k : Nat, j + r = F.length → j ≤ N.length → 2 * r + 2 ≤ k → switchboardref10_meets.l0 k F N (j : Int) = some (meetsL (F.drop j) (N.drop j))
  | 0, j, k, hj, hjn, hk => by
    obtain ⟨k, rfl⟩ : ∃ q, k = q + 1 := ⟨k - 1, by omega⟩
    simp only [switchboardref10_meets.l0]
    rw [if_neg (by omega), List.drop_eq_nil_of_le (by omega)]
    congr 1
    cases hd : N.drop j with
    | nil =>
      have h3 := congrArg List.length hd
      simp only [List.length_drop, List.length_nil] at h3
      exact beq_iff_eq.2 (by omega)
    | cons a l =>
      have h3 := congrArg List.length hd
      simp only [List.length_drop, List.length_cons] at h3
      exact beq_eq_false_iff_ne.2 (by omega)
  | r + 1, j, k, hj, hjn, hk => by
    obtain ⟨k, rfl⟩ : ∃ q, k = q + 2 := ⟨k - 2, by omega⟩
    have hlt : j < F.length := by omega
    have e1 : wrap64 ((j : Int) + 1) = ((j + 1 : Nat) : Int) := by rw [w64 (by omega) (by omega)]; push_cast; rfl
    have e2 : wrap64 ((F.length : Int) - 1) = (F.length : Int) - 1 := w64 (by omega) (by omega)
    have hlast : (F.drop (j + 1) = []) ↔ j + 1 = F.length := by rw [List.drop_eq_nil_iff]; omega
    have hj1 : ∀ bb : Bool, (bb = true ↔ F[j].toList = [35] ∧ j + 1 = F.length) → switchboardref10_meets.j1 (k + 1) F N (j : Int) bb = some (meetsL (F[j] :: F.drop (j + 1)) (N.drop j)) := by
      intro bb hbb
      cases bb with
      | true =>
        have h := hbb.1 rfl
        have hM : meetsL (F[j] :: F.drop (j + 1)) (N.drop j) = true := by unfold meetsL; rw [if_pos ⟨h.1, hlast.2 h.2⟩]
        simp only [switchboardref10_meets.j1]
        rw [if_pos trivial, hM]
      | false =>
        have h : ¬ (F[j].toList = [35] ∧ j + 1 = F.length) := fun h => by have := hbb.2 h; cases this
        simp only [switchboardref10_meets.j1]
        rw [if_neg (by decide)]
        by_cases hn : j < N.length
        · have ih := meets_l0 F N hF hN r (j + 1) k (by omega) (by omega) (by omega)
          have hM : meetsL (F[j] :: F.drop (j + 1)) (N.drop j) = if F[j].toList = [43] ∨ F[j].toList = N[j].toList then meetsL (F.drop (j + 1)) (N.drop (j + 1)) else false := by
            rw [List.drop_eq_getElem_cons hn, meetsL, if_neg (fun h2 => h ⟨h2.1, hlast.1 h2.2⟩)]
          rw [hM, if_neg (by omega), if_pos (by omega), if_pos (by omega), rdOf_at F j hlt, rdOf_at N j hn, e1, ih]
          by_cases h43 : F[j].toList = [43]
          · rw [if_pos h43, if_pos (.inl h43)]
          · rw [if_neg h43, if_pos (by omega)]
            by_cases hxy : F[j].toList = N[j].toList
            · rw [if_pos hxy, if_pos (.inr hxy)]
            · rw [if_neg hxy, if_neg (fun h => h.elim h43 hxy)]
        · have hM : meetsL (F[j] :: F.drop (j + 1)) (N.drop j) = false := by
            rw [show N.drop j = [] from List.drop_eq_nil_of_le (by omega), meetsL, if_neg (fun h2 => h ⟨h2.1, hlast.1 h2.2⟩)]
          rw [if_pos (by omega), hM]
    rw [switchboardref10_meets.l0, if_pos (by omega), if_pos (by omega), rdOf_at F j hlt, List.drop_eq_getElem_cons hlt, e2]
    by_cases h35 : F[j].toList = [35]
    · rw [if_pos h35]
      refine hj1 _ ⟨fun h => ⟨h35, ?_⟩, fun h => beq_iff_eq.2 (by omega)⟩
      have := beq_iff_eq.1 h
      omega
    · rw [if_neg h35]
      exact hj1 false ⟨fun h => (by cases h), fun h => absurd h.1 h35⟩
theorem take_one {l : List UInt8} (h : 0 < l.length) : (⟨(l.take 1).toArray⟩ : ByteArray).data.toList = [l[0]] := by
  cases l with
  | nil => simp at h
  | cons a l => simp
theorem signFirst_at {L : List ByteArray} (h : 0 < L.length) : signFirst L = ((L[0]).toList == ([43] : List UInt8) || (L[0]).toList == ([35] : List UInt8)) := by
  cases L with
  | nil => simp at h
  | cons x l => rfl
theorem hidB_at (s : ByteArray) : hidB s = if 0 < s.size then decide (byteAt s 0 = 36) else false := by
  unfold hidB
  by_cases h : 1 ≤ s.size
  · rw [if_pos h, if_pos (by omega)]
    have hlt : 0 < s.data.toList.length := by rw [← Lib.size_eq]; omega
    have e1 : (s.extract 0 1).toList = [s.data.toList[0]] := by
      rw [Lib.toList_data, Lib.extract_eq]
      rw [List.drop_zero, show 1 - 0 = 1 from rfl]
      exact take_one hlt
    have e2 : (⟨#[36]⟩ : ByteArray).toList = [36] := by rw [Lib.toList_data]
    have hd : s.data.toList[0] = s[0]'(by omega) := by
      have := Lib.data_getElem? s 0 (by omega)
      rw [List.getElem?_eq_getElem hlt] at this
      exact Option.some.inj this
    rw [e1, e2, hd, byteAt_of (s := s) (k := 0) (by omega)]
    by_cases hx : s[0]'(by omega) = 36
    · rw [hx]; rfl
    · rw [decide_eq_false (fun h2 => hx (UInt8.toNat_inj.1 (h2.trans rfl)))]
      exact beq_eq_false_iff_ne.2 (fun h2 => hx (by simpa using h2))
  · rw [if_neg h, if_neg (by omega)]
theorem match_f (f n : ByteArray) (hf : f.size ≤ 900000) (hn : n.size ≤ 900000) (k : Nat) (hk : 2 * f.size + n.size + 20 ≤ k) : switchboardref10_Match.f k f n = some (matchB f n) := by
  obtain ⟨k, rfl⟩ : ∃ q, k = q + 1 := ⟨k - 1, by omega⟩
  have hlf : (levelsOf f).length ≤ f.size + 1 := by rw [← split_count]; have := count_small f; omega
  have hln : (levelsOf n).length ≤ n.size + 1 := by rw [← split_count]; have := count_small n; omega
  have h0 := levelsOf_ne f
  have hj0 : ∀ bb : Bool, bb = (hidB n && signFirst (levelsOf f)) → switchboardref10_Match.j0 (k + 1) n (levelsOf f) bb = some (matchB f n) := by
    intro bb hbb
    simp only [switchboardref10_Match.j0]
    unfold matchB
    rw [← hbb]
    cases bb with
    | true => rfl
    | false =>
      rw [if_neg (by decide), if_neg (by decide), rlevels_f n (by omega) k (by omega)]
      simp only [Option.bind_some]
      have hm : switchboardref10_meets.f k (levelsOf f) (levelsOf n) 0 = some (meetsL (levelsOf f) (levelsOf n)) := by
        have := meets_l0 (levelsOf f) (levelsOf n) (by omega) (by omega) (levelsOf f).length 0 k (by omega) (by omega) (by omega)
        rw [List.drop_zero, List.drop_zero] at this
        exact this
      rw [hm]
      rfl
  have hsf : signFirst (levelsOf f) = (((levelsOf f)[0]).toList == ([43] : List UInt8) || ((levelsOf f)[0]).toList == ([35] : List UInt8)) := signFirst_at h0
  unfold switchboardref10_Match.f
  rw [rlevels_f f (by omega) (k + 1) (by omega)]
  simp only [Option.bind_some]
  by_cases hs : 0 < n.size
  · have hne : ¬ n.toList = [] := by
      intro e
      have := isEmpty_of n hs
      rw [e] at this
      exact absurd this (by decide)
    have hb := bt_nat n 0 hs
    rw [if_neg hne, if_pos (by omega), show bt n 0 = ((byteAt n 0 : Nat) : Int) from hb]
    have hh := hidB_at n
    rw [if_pos hs] at hh
    by_cases h36 : byteAt n 0 = 36
    · rw [decide_eq_true h36] at hh
      rw [if_pos (by omega), if_pos (by omega), show rdOf ByteArray.empty (levelsOf f) 0 = (levelsOf f)[0] from rdOf_at _ 0 h0]
      by_cases h43 : ((levelsOf f)[0]).toList = [43]
      · rw [if_pos h43]
        exact hj0 true (by rw [hh, hsf, beq_iff_eq.2 h43]; rfl)
      · rw [if_neg h43]
        exact hj0 _ (by rw [hh, hsf, beq_eq_false_iff_ne.2 h43, Bool.true_and, Bool.false_or])
    · rw [decide_eq_false h36] at hh
      rw [if_neg (by omega)]
      exact hj0 false (by rw [hh]; rfl)
  · have he : n.toList = [] := List.isEmpty_iff.1 (isEmpty_nil n (by omega))
    have hh := hidB_at n
    rw [if_neg hs] at hh
    rw [if_pos he]
    exact hj0 false (by rw [hh]; rfl)
end Go.Proofs.YtjlohmhmnghjkaaDoor
