/- TopicWider: the plain law: joins of levels, good texts, wider filters. -/
import Derived.Test.YtjlohmhmnghjkaaDoorT11
namespace Go.Proofs.YtjlohmhmnghjkaaDoor
open Go.RowKit Go.Lib Go.Proofs.YtjlohmhmnghjkaaDoorW.PrintWords Go.Proofs.YtjlohmhmnghjkaaDoor.PTopicReads
set_option linter.unusedVariables false
set_option linter.unusedSimpArgs false

theorem splitP_unL : ∀ (M : List (List UInt8)), M ≠ [] → (∀ x ∈ M, 47 ∉ x) → splitP [] (unL M) = M
  | [], h, _ => absurd rfl h
  | [x], _, h => by
    show splitP [] x = [x]
    rw [splitP_miss x [] (h x (by simp))]
    rfl
  | x :: y :: r, _, h => by
    show splitP [] (x ++ 47 :: unL (y :: r)) = _
    rw [splitP_hit x _ [] (h x (by simp)), splitP_unL (y :: r) (by simp) (fun z hz => h z (List.mem_cons_of_mem _ hz))]
    rfl
theorem splitP_no : ∀ (l p x : List UInt8), 47 ∉ p → x ∈ splitP p l → 47 ∉ x
  | [], p, x, hp, hx => by obtain rfl := List.mem_singleton.1 hx; exact hp
  | b :: l, p, x, hp, hx => by
    unfold splitP at hx
    by_cases hb : b = 47
    · rw [if_pos hb] at hx
      rcases List.mem_cons.1 hx with rfl | hx
      · exact hp
      · exact splitP_no l [] x (by simp) hx
    · rw [if_neg hb] at hx
      refine splitP_no l _ x ?_ hx
      intro h
      rcases List.mem_append.1 h with h | h
      · exact hp h
      · exact hb (List.mem_singleton.1 h).symm
/-- Levels joined again. -/
def joinB (M : List ByteArray) : ByteArray := toB (unL (M.map (fun s : ByteArray => s.data.toList)))
theorem map_toB (M : List ByteArray) : (M.map (fun s : ByteArray => s.data.toList)).map toB = M := by
  rw [List.map_map]
  refine (List.map_congr_left fun x _ => ?_).trans (List.map_id M)
  exact toB_list x
theorem levels_join {M : List ByteArray} (h0 : M ≠ []) (h : ∀ x ∈ M, 47 ∉ x.data.toList) : levelsOf (joinB M) = M := by
  unfold levelsOf levelsL joinB
  rw [show (toB (unL (M.map (fun s : ByteArray => s.data.toList)))).data.toList = unL (M.map (fun s : ByteArray => s.data.toList)) by simp [toB], splitP_unL _ (by simpa using h0) (by
    intro x hx
    obtain ⟨s, hs, rfl⟩ := List.mem_map.1 hx
    exact h s hs), map_toB]
theorem levels_noslash {f x : ByteArray} (h : x ∈ levelsOf f) : 47 ∉ x.data.toList := by
  obtain ⟨y, hy, rfl⟩ := List.mem_map.1 h
  rw [show (toB y).data.toList = y by simp [toB]]
  exact splitP_no _ _ y (by simp) hy

/-- Good on lists. -/
def GL (l : List UInt8) : Prop := GoodW (toB l) true
theorem byteAt_l {l : List UInt8} {k : Nat} (h : k < l.length) : byteAt (toB l) k = (l[k]).toNat := by
  have hs : k < (toB l).size := by rw [toB_size]; exact h
  rw [byteAt_of hs]
  have h1 := Lib.data_getElem? (toB l) k hs
  have h2 : (toB l).data.toList = l := by simp [toB]
  rw [h2, List.getElem?_eq_getElem h] at h1
  rw [Option.some.inj h1]
theorem valW_congr {s t : ByteArray} (v0 : Nat) : ∀ k, (∀ j, 1 ≤ j → j ≤ k → byteAt s j = byteAt t j) → valW s v0 k = valW t v0 k
  | 0, _ => rfl
  | k + 1, h => by
    show valW s v0 k * 64 + byteAt s (k + 1) % 64 = valW t v0 k * 64 + byteAt t (k + 1) % 64
    rw [valW_congr v0 k (fun j h1 h2 => h j h1 (by omega)), h (k + 1) (by omega) (Nat.le_refl _)]
/-- A sign that is good says the same before other bytes, and behind a cut. -/
theorem sign_move {l m : List UInt8} {v n : Nat} (h : SignW (toB l) v n) (hn : n ≠ 0) (hm : n ≤ m.length) (he : ∀ k, k < n → l[k]? = m[k]?) : SignW (toB m) v n := by
  have hb : ∀ k, k < n → k < l.length → byteAt (toB m) k = byteAt (toB l) k := by
    intro k hk hkl
    have h1 := he k hk
    rw [List.getElem?_eq_getElem hkl, List.getElem?_eq_getElem (by omega)] at h1
    rw [byteAt_l hkl, byteAt_l (by omega), Option.some.inj h1]
  have hsz : ∀ q : List UInt8, (toB q).size = q.length := toB_size
  cases h with
  | none h => exact absurd rfl hn
  | one h h1 =>
    have h0 := hb 0 (by omega) (by rw [hsz] at h; exact h)
    rw [← h0]
    exact .one (by rw [hsz]; omega) (by rw [h0]; exact h1)
  | first h h1 h2 => exact absurd rfl hn
  | short n h h1 h2 h0 h3 => exact absurd rfl hn
  | cont n k h h1 h2 h3 k1 k2 h4 => exact absurd rfl hn
  | bad n h h1 h2 h0 h3 h4 h5 => exact absurd rfl hn
  | good n h h1 h2 h0 h3 h4 h5 =>
    rw [hsz] at h h3
    have hb0 := hb 0 (by omega) (by omega)
    have hv : valW (toB l) (firstV (byteAt (toB l) 0) n) (n - 1) = valW (toB m) (firstV (byteAt (toB l) 0) n) (n - 1) := valW_congr _ _ (fun j h1 h2 => (hb j (by omega) (by omega)).symm)
    rw [hv] at h5 ⊢
    rw [← hb0] at h5 h1 h2 ⊢
    exact .good n (by rw [hsz]; omega) h1 h2 h0 (by rw [hsz]; exact hm) (fun k k1 k2 => by rw [hb k k2 (by omega)]; exact h4 k k1 k2) h5
theorem drop_toB (l : List UInt8) (n : Nat) : (toB l).extract n (toB l).size = toB (l.drop n) := string_eq_of (by
  rw [extract_from, List.toList_toArray]
  simp [toB])
theorem GL_step {l : List UInt8} (h : GL l) (hl : l ≠ []) : ∃ v n, n ≠ 0 ∧ v ≠ 0 ∧ n ≤ l.length ∧ SignW (toB l) v n ∧ GL (l.drop n) := by
  have hz := toB_size l
  generalize hs : toB l = s at hz
  unfold GL at h
  rw [hs] at h
  generalize hb : true = b at h
  cases h with
  | nil _ h => exact absurd (List.length_eq_zero_iff.1 (by omega)) hl
  | bad _ v n h1 h2 h3 => cases hb
  | step _ v n b h1 h2 h3 h4 h5 =>
    subst hb
    have hle := h2.le
    refine ⟨v, n, h3, h4, by omega, h2, ?_⟩
    unfold GL
    rw [← drop_toB, hs]
    exact h5
theorem GL_cons {l : List UInt8} {v n : Nat} (h0 : l ≠ []) (hS : SignW (toB l) v n) (hn : n ≠ 0) (hv : v ≠ 0) (h : GL (l.drop n)) : GL l := by
  refine .step _ v n true ?_ hS hn hv ?_
  · rw [toB_size]
    exact List.length_pos_iff.2 h0
  · rw [drop_toB]; exact h
theorem GL_nil : GL [] := .nil _ rfl
theorem GL_append : ∀ (k : Nat) (a b : List UInt8), a.length ≤ k → GL a → GL b → GL (a ++ b)
  | 0, a, b, hk, ha, hb => by
    obtain rfl := List.length_eq_zero_iff.1 (Nat.le_zero.1 hk)
    exact hb
  | k + 1, a, b, hk, ha, hb => by
    by_cases h0 : a = []
    · subst h0; exact hb
    · obtain ⟨v, n, hn, hv, hle, hS, hd⟩ := GL_step ha h0
      refine GL_cons (by simp [h0]) (sign_move hS hn (by simp; omega) fun j hj => ?_) hn hv ?_
      · rw [List.getElem?_append_left (by omega)]
      · rw [List.drop_append_of_le_length hle]
        exact GL_append k _ b (by simp; omega) hd hb
theorem sign_in {a b : List UInt8} {v n : Nat} (ha : a ≠ []) (h : SignW (toB (a ++ 47 :: b)) v n) (hn : n ≠ 0) : n ≤ a.length := by
  have hl : 0 < a.length := List.length_pos_iff.2 ha
  have hb : byteAt (toB (a ++ 47 :: b)) a.length = 47 := by
    rw [byteAt_l (by simp)]
    simp
  cases h with
  | none h => exact absurd rfl hn
  | one h h1 => omega
  | first h h1 h2 => exact absurd rfl hn
  | short n h h1 h2 h0 h3 => exact absurd rfl hn
  | cont n k h h1 h2 h3 k1 k2 h4 => exact absurd rfl hn
  | bad n h h1 h2 h0 h3 h4 h5 => exact absurd rfl hn
  | good n h h1 h2 h0 h3 h4 h5 =>
    by_cases hlt : a.length < n
    · have := h4 a.length (by omega) hlt
      rw [hb] at this
      omega
    · omega
/-- Around a slash both parts are good. -/
theorem GL_split : ∀ (k : Nat) (a b : List UInt8), a.length ≤ k → GL (a ++ 47 :: b) → GL a ∧ GL b
  | 0, a, b, hk, h => by
    obtain rfl := List.length_eq_zero_iff.1 (Nat.le_zero.1 hk)
    obtain ⟨v, n, hn, hv, hle, hS, hd⟩ := GL_step h (by simp)
    have h1 : n = 1 := by
      have hb0 : byteAt (toB ([] ++ 47 :: b)) 0 = 47 := by rw [byteAt_l (by simp)]; rfl
      cases hS with
      | none h => exact absurd rfl hn
      | one h h1 => rfl
      | first h h1 h2 => exact absurd rfl hn
      | short n h h1 h2 h0 h3 => exact absurd rfl hn
      | cont n k h h1 h2 h3 k1 k2 h4 => exact absurd rfl hn
      | bad n h h1 h2 h0 h3 h4 h5 => exact absurd rfl hn
      | good n h h1 h2 h0 h3 h4 h5 => rw [hb0] at h1; omega
    subst h1
    exact ⟨GL_nil, hd⟩
  | k + 1, a, b, hk, h => by
    by_cases h0 : a = []
    · subst h0
      exact GL_split 0 [] b (Nat.le_refl _) h
    · obtain ⟨v, n, hn, hv, hle, hS, hd⟩ := GL_step h (by simp)
      have hna := sign_in h0 hS hn
      rw [List.drop_append_of_le_length hna] at hd
      obtain ⟨h1, h2⟩ := GL_split k (a.drop n) b (by simp; omega) hd
      exact ⟨GL_cons h0 (sign_move hS hn hna fun j hj => by rw [List.getElem?_append_left (by omega)]) hn hv h1, h2⟩
theorem GL_pieces : ∀ (M : List (List UInt8)), M ≠ [] → GL (unL M) → ∀ x ∈ M, GL x
  | [], h, _, x, hx => absurd rfl h
  | [y], _, hg, x, hx => by obtain rfl := List.mem_singleton.1 hx; exact hg
  | y :: z :: r, _, hg, x, hx => by
    obtain ⟨h1, h2⟩ := GL_split y.length y (unL (z :: r)) (Nat.le_refl _) hg
    rcases List.mem_cons.1 hx with rfl | hx
    · exact h1
    · exact GL_pieces (z :: r) (by simp) h2 x hx
theorem GL_one {x : UInt8} (h0 : 0 < x.toNat) (h1 : x.toNat < 128) : GL [x] := goodW_plain [x] (fun y hy => by obtain rfl := List.mem_singleton.1 hy; exact ⟨h0, h1⟩)
theorem GL_join : ∀ (M : List (List UInt8)), (∀ x ∈ M, GL x) → GL (unL M)
  | [], _ => GL_nil
  | [y], h => h y (by simp)
  | y :: z :: r, h => by
    show GL (y ++ 47 :: unL (z :: r))
    refine GL_append y.length y _ (Nat.le_refl _) (h y (by simp)) ?_
    exact GL_append 1 [47] _ (Nat.le_refl _) (GL_one (by decide) (by decide)) (GL_join (z :: r) fun x hx => h x (List.mem_cons_of_mem _ hx))
end Go.Proofs.YtjlohmhmnghjkaaDoor
