/- TopicWider: wider filters. -/
import Derived.Test.YtjlohmhmnghjkaaDoorT15
import Derived.Lib.Join
namespace Go.Proofs.YtjlohmhmnghjkaaDoor
open Go.RowKit Go.Lib Go.Proofs.YtjlohmhmnghjkaaDoorW.PrintWords Go.Proofs.YtjlohmhmnghjkaaDoor.PTopicReads
set_option linter.unusedVariables false
set_option linter.unusedSimpArgs false

def sumLen (M : List (List UInt8)) : Nat := (M.map List.length).sum
theorem unL_length : ∀ (M : List (List UInt8)), M ≠ [] → (unL M).length + 1 = sumLen M + M.length
  | [], h => absurd rfl h
  | [x], _ => by simp [unL, sumLen]
  | x :: y :: r, _ => by
    have := unL_length (y :: r) (by simp)
    show (x ++ 47 :: unL (y :: r)).length + 1 = _
    rw [List.length_append, List.length_cons]
    simp only [sumLen, List.map_cons, List.sum_cons, List.length_cons] at this ⊢
    omega
theorem filter_join {M : List ByteArray} (h0 : M ≠ []) (h47 : ∀ x ∈ M, 47 ∉ x.data.toList) (hg : ∀ x ∈ M, GL x.data.toList) (hlen : M.length ≤ 32) (hpos : 0 < (joinB M).size) (hsz : (joinB M).size ≤ 65535) (hok : okL M = true) : filterB (joinB M) = true := by
  have hl := levels_join h0 h47
  have hgood : goodB (joinB M) = true := by
    refine (goodB_of (b := true) ?_ hsz).symm
    exact GL_join _ (by
      intro x hx
      obtain ⟨s, hs, rfl⟩ := List.mem_map.1 hx
      exact hg s hs)
  have hc : Lib.countByte (joinB M).data.toList 47 < 32 := by
    have := levelsOf_length (joinB M)
    rw [hl] at this
    omega
  unfold filterB textB
  rw [hl, hok, hgood, decide_eq_true hpos, decide_eq_true hc]
  rfl
theorem filter_facts {f : ByteArray} (h : filterB f = true) (hs : f.size ≤ 80) : okL (levelsOf f) = true ∧ (levelsOf f).length ≤ 32 ∧ ∀ x ∈ levelsOf f, GL x.data.toList := by
  unfold filterB textB at h
  simp only [Bool.and_eq_true, decide_eq_true_eq] at h
  have hlen := levelsOf_length f
  refine ⟨h.2, by omega, fun x hx => ?_⟩
  obtain ⟨y, hy, rfl⟩ := List.mem_map.1 hx
  rw [show (toB y).data.toList = y by simp [toB]]
  refine GL_pieces (levelsL f.data.toList) (splitP_ne _ _) ?_ y hy
  unfold levelsL
  rw [unL_splitP]
  have hg := goodB_W f (by omega)
  rw [h.1.1.2] at hg
  show GoodW (toB ([] ++ f.data.toList)) true
  rw [List.nil_append, toB_list]
  exact hg
theorem okL_ends : ∀ (L : List ByteArray) (k : Nat), okL L = true → k < L.length → okL (L.take k ++ [⟨#[35]⟩]) = true
  | [], k, _, h => by simp at h
  | x :: L, 0, _, _ => by
    have : (⟨#[35]⟩ : ByteArray).toList = [35] := by rw [Lib.toList_data]
    simp [okL, levelOk, this]
  | x :: L, k + 1, h, hk => by
    unfold okL at h
    simp only [Bool.and_eq_true] at h
    have hk' : k < L.length := by simpa using hk
    have ih := okL_ends L k h.2 hk'
    show (levelOk x (L.take k ++ [(⟨#[35]⟩ : ByteArray)]).length && okL (L.take k ++ [(⟨#[35]⟩ : ByteArray)])) = true
    rw [ih, Bool.and_true]
    have h1 := h.1
    unfold levelOk at h1 ⊢
    have e1 : (L.length == 0) = false := beq_eq_false_iff_ne.2 (by omega)
    have e2 : ((L.take k ++ [(⟨#[35]⟩ : ByteArray)]).length == 0) = false := beq_eq_false_iff_ne.2 (by simp)
    rw [e1] at h1
    rw [e2]
    exact h1
theorem okL_set : ∀ (L : List ByteArray) (k : Nat), okL L = true → k < L.length → okL (L.set k ⟨#[43]⟩) = true
  | [], k, _, h => by simp at h
  | x :: L, 0, h, _ => by
    unfold okL at h
    simp only [Bool.and_eq_true] at h
    have : (⟨#[43]⟩ : ByteArray).toList = [43] := by rw [Lib.toList_data]
    show (levelOk ⟨#[43]⟩ L.length && okL L) = true
    rw [h.2]
    simp [levelOk, this]
  | x :: L, k + 1, h, hk => by
    unfold okL at h
    simp only [Bool.and_eq_true] at h
    show (levelOk x (L.set k ⟨#[43]⟩).length && okL (L.set k ⟨#[43]⟩)) = true
    rw [List.length_set, h.1, okL_set L k h.2 (by simpa using hk)]
    rfl
theorem meets_ends : ∀ (L N : List ByteArray) (k : Nat), k < L.length → meetsL L N = true → meetsL (L.take k ++ [⟨#[35]⟩]) N = true
  | [], N, k, h, _ => by simp at h
  | x :: L, N, 0, _, _ => by
    have : (⟨#[35]⟩ : ByteArray).toList = [35] := by rw [Lib.toList_data]
    show meetsL [⟨#[35]⟩] N = true
    unfold meetsL
    rw [if_pos ⟨this, rfl⟩]
  | x :: L, N, k + 1, hk, h => by
    have hk' : k < L.length := by simpa using hk
    have hne : L ≠ [] := fun e => by rw [e] at hk'; simp at hk'
    unfold meetsL at h
    rw [if_neg (fun e => hne e.2)] at h
    show meetsL (x :: (L.take k ++ [⟨#[35]⟩])) N = true
    unfold meetsL
    rw [if_neg (fun e => by have := e.2; simp at this)]
    cases N with
    | nil => exact h
    | cons y N =>
      simp only at h ⊢
      by_cases hc : x.toList = [43] ∨ x.toList = y.toList
      · rw [if_pos hc] at h ⊢
        exact meets_ends L N k hk' h
      · rw [if_neg hc] at h; cases h
theorem meets_set : ∀ (L N : List ByteArray) (k : Nat) (hk : k < L.length), (L[k]).toList ≠ [35] → meetsL L N = true → meetsL (L.set k ⟨#[43]⟩) N = true
  | [], N, k, h, _, _ => by simp at h
  | x :: L, N, 0, hk, hx, h => by
    have e43 : (⟨#[43]⟩ : ByteArray).toList = [43] := by rw [Lib.toList_data]
    unfold meetsL at h
    rw [if_neg (fun e => hx e.1)] at h
    show meetsL (⟨#[43]⟩ :: L) N = true
    unfold meetsL
    rw [if_neg (fun e => by rw [e43] at e; exact absurd e.1 (by decide))]
    cases N with
    | nil => exact h
    | cons y N =>
      simp only at h ⊢
      rw [if_pos (.inl e43)]
      by_cases hc : x.toList = [43] ∨ x.toList = y.toList
      · rw [if_pos hc] at h; exact h
      · rw [if_neg hc] at h; cases h
  | x :: L, N, k + 1, hk, hx, h => by
    have hk' : k < L.length := by simpa using hk
    have hne : L ≠ [] := fun e => by rw [e] at hk'; simp at hk'
    unfold meetsL at h
    rw [if_neg (fun e => hne e.2)] at h
    show meetsL (x :: (L.set k ⟨#[43]⟩)) N = true
    unfold meetsL
    rw [if_neg (fun e => hne (by have h := congrArg List.length e.2; rw [List.length_set] at h; exact List.length_eq_zero_iff.1 h))]
    cases N with
    | nil => exact h
    | cons y N =>
      simp only at h ⊢
      by_cases hc : x.toList = [43] ∨ x.toList = y.toList
      · rw [if_pos hc] at h ⊢
        exact meets_set L N k hk' (by simpa using hx) h
      · rw [if_neg hc] at h; cases h
theorem match_of {f n : ByteArray} (hh : hidB n = false) : matchB f n = meetsL (levelsOf f) (levelsOf n) := by
  unfold matchB
  rw [hh, Bool.false_and, if_neg (by decide)]
theorem sumLen_take : ∀ (M : List (List UInt8)) (k : Nat), sumLen (M.take k) ≤ sumLen M
  | [], k => by simp [sumLen]
  | x :: M, 0 => by simp [sumLen]
  | x :: M, k + 1 => by
    have := sumLen_take M k
    simp only [sumLen, List.take_succ_cons, List.map_cons, List.sum_cons] at this ⊢
    omega
theorem sumLen_set : ∀ (M : List (List UInt8)) (k : Nat) (y : List UInt8), sumLen (M.set k y) ≤ sumLen M + y.length
  | [], k, y => by simp [sumLen]
  | x :: M, 0, y => by
    simp only [sumLen, List.set_cons_zero, List.map_cons, List.sum_cons]
    omega
  | x :: M, k + 1, y => by
    have := sumLen_set M k y
    simp only [sumLen, List.set_cons_succ, List.map_cons, List.sum_cons] at this ⊢
    omega
theorem sum_levels (f : ByteArray) : f.size + 1 = sumLen ((levelsOf f).map fun s : ByteArray => s.data.toList) + (levelsOf f).length := by
  have h1 : (levelsOf f).map (fun s : ByteArray => s.data.toList) = levelsL f.data.toList := by
    unfold levelsOf
    rw [List.map_map]
    refine (List.map_congr_left fun x _ => ?_).trans (List.map_id _)
    simp [toB]
  have h2 := unL_length (levelsL f.data.toList) (splitP_ne _ _)
  have h3 : unL (levelsL f.data.toList) = f.data.toList := by unfold levelsL; rw [unL_splitP]; rfl
  rw [h3] at h2
  rw [h1, Lib.size_eq, h2]
  unfold levelsOf
  rw [List.length_map]
theorem join_size (M : List ByteArray) (h : M ≠ []) : (joinB M).size + 1 = sumLen (M.map fun s : ByteArray => s.data.toList) + M.length := by
  unfold joinB
  rw [toB_size, unL_length _ (by simpa using h), List.length_map]
theorem wider_ends {f n : ByteArray} (hf : filterB f = true) (hs : f.size ≤ 80) (k : Nat) (hk : k < (levelsOf f).length) :
    (joinB ((levelsOf f).take k ++ [⟨#[35]⟩])).size ≤ 81 ∧ filterB (joinB ((levelsOf f).take k ++ [⟨#[35]⟩])) = true ∧ (hidB n = false → matchB f n = true → matchB (joinB ((levelsOf f).take k ++ [⟨#[35]⟩])) n = true) := by
  obtain ⟨h1, h2, h3⟩ := filter_facts hf hs
  have hne : (levelsOf f).take k ++ [(⟨#[35]⟩ : ByteArray)] ≠ [] := by simp
  have h47 : ∀ x ∈ (levelsOf f).take k ++ [(⟨#[35]⟩ : ByteArray)], 47 ∉ x.data.toList := by
    intro x hx
    rcases List.mem_append.1 hx with hx | hx
    · exact levels_noslash (List.mem_of_mem_take hx)
    · obtain rfl := List.mem_singleton.1 hx; decide
  have hjs := join_size _ hne
  have hsum := sum_levels f
  have hst := sumLen_take ((levelsOf f).map fun s : ByteArray => s.data.toList) k
  have hsz : (joinB ((levelsOf f).take k ++ [⟨#[35]⟩])).size ≤ 81 ∧ 0 < (joinB ((levelsOf f).take k ++ [⟨#[35]⟩])).size := by
    have e1 : sumLen (((levelsOf f).take k ++ [(⟨#[35]⟩ : ByteArray)]).map fun s : ByteArray => s.data.toList) = sumLen (((levelsOf f).map fun s : ByteArray => s.data.toList).take k) + 1 := by
      rw [List.map_append, List.map_take]
      simp [sumLen]
    rw [e1, List.length_append, List.length_take, List.length_singleton] at hjs
    omega
  refine ⟨hsz.1, filter_join hne h47 (fun x hx => ?_) (by simp; omega) hsz.2 (by omega) (okL_ends _ k h1 hk), fun hh hm => ?_⟩
  · rcases List.mem_append.1 hx with hx | hx
    · exact h3 x (List.mem_of_mem_take hx)
    · obtain rfl := List.mem_singleton.1 hx
      exact GL_one (by decide) (by decide)
  · rw [match_of hh] at hm ⊢
    rw [levels_join hne h47]
    exact meets_ends _ _ k hk hm
theorem wider_plus {f n : ByteArray} (hf : filterB f = true) (hs : f.size ≤ 80) (k : Nat) (hk : k < (levelsOf f).length) (hx : ((levelsOf f)[k]).toList ≠ [35]) :
    (joinB ((levelsOf f).set k ⟨#[43]⟩)).size ≤ 81 ∧ filterB (joinB ((levelsOf f).set k ⟨#[43]⟩)) = true ∧ (hidB n = false → matchB f n = true → matchB (joinB ((levelsOf f).set k ⟨#[43]⟩)) n = true) := by
  obtain ⟨h1, h2, h3⟩ := filter_facts hf hs
  have hne : (levelsOf f).set k (⟨#[43]⟩ : ByteArray) ≠ [] := fun e => by have := congrArg List.length e; simp at this; rw [this] at hk; simp at hk
  have hmem : ∀ x ∈ (levelsOf f).set k (⟨#[43]⟩ : ByteArray), x ∈ levelsOf f ∨ x = ⟨#[43]⟩ := fun x hx => List.mem_or_eq_of_mem_set hx
  have h47 : ∀ x ∈ (levelsOf f).set k (⟨#[43]⟩ : ByteArray), 47 ∉ x.data.toList := by
    intro x hx
    rcases hmem x hx with hx | rfl
    · exact levels_noslash hx
    · decide
  have hjs := join_size _ hne
  have hsum := sum_levels f
  have hss := sumLen_set ((levelsOf f).map fun s : ByteArray => s.data.toList) k [43]
  have hsz : (joinB ((levelsOf f).set k ⟨#[43]⟩)).size ≤ 81 ∧ 0 < (joinB ((levelsOf f).set k ⟨#[43]⟩)).size := by
    have e1 : ((levelsOf f).set k (⟨#[43]⟩ : ByteArray)).map (fun s : ByteArray => s.data.toList) = ((levelsOf f).map fun s : ByteArray => s.data.toList).set k [43] := by rw [List.map_set]
    rw [e1, List.length_set] at hjs
    simp only [List.length_singleton] at hss
    refine ⟨by omega, ?_⟩
    have hge : 1 ≤ sumLen (((levelsOf f).map fun s : ByteArray => s.data.toList).set k [43]) := by
      have hmem2 : [43] ∈ ((levelsOf f).map fun s : ByteArray => s.data.toList).set k ([43] : List UInt8) := List.mem_set (by simpa using hk) _
      have : ∀ (M : List (List UInt8)), [43] ∈ M → 1 ≤ sumLen M := by
        intro M
        induction M with
        | nil => intro h; cases h
        | cons a M ih =>
          intro h
          simp only [sumLen, List.map_cons, List.sum_cons]
          rcases List.mem_cons.1 h with h | h
          · rw [← h]; simp
          · have := ih h; unfold sumLen at this; omega
      exact this _ hmem2
    omega
  refine ⟨hsz.1, filter_join hne h47 (fun x hx => ?_) (by rw [List.length_set]; exact h2) hsz.2 (by omega) (okL_set _ k h1 hk), fun hh hm => ?_⟩
  · rcases hmem x hx with hx | rfl
    · exact h3 x hx
    · exact GL_one (by decide) (by decide)
  · rw [match_of hh] at hm ⊢
    rw [levels_join hne h47]
    exact meets_set _ _ k hk hx hm
theorem join_unL : ∀ (M : List (List UInt8)), Lib.join M [47] = unL M
  | [] => rfl
  | [x] => Lib.join_one x [47]
  | x :: y :: r => by
    have h := join_unL (y :: r)
    rw [Lib.join_cons] at h
    rw [Lib.join_cons]
    show x ++ (([47] ++ y) ++ Lib.joinTail [47] r) = x ++ 47 :: unL (y :: r)
    rw [← h]
    simp
end Go.Proofs.YtjlohmhmnghjkaaDoor
