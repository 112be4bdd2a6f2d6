/- switchboardref02.Sign and Good say the same as word.Sign and word.Good; word.Good's contract. -/
import Derived.Test.YtjlohmhmnghjkaaDoorF
namespace Go.Proofs.YtjlohmhmnghjkaaDoor
open Go.RowKit Go.Lib Go.Proofs.YtjlohmhmnghjkaaDoorW.PrintWords Go.Proofs.YtjlohmhmnghjkaaDoor.PTopicReads
set_option linter.unusedVariables false
set_option linter.unusedSimpArgs false

theorem sign_none (s : ByteArray) (hno : ∀ n, 1 ≤ n → n ≤ 4 → n ≤ s.size → ¬ takes s n) : ∀ r m k : Nat, m + r = 5 → 1 ≤ m → 10 + 2 * r ≤ k → switchboardref02_Sign.l0 k s (m : Int) = some (0, 0) := by
  intro r
  induction r with
  | zero =>
    intro m k hm h1 hk
    obtain ⟨k, rfl⟩ : ∃ j, k = j + 2 := ⟨k - 2, by omega⟩
    exact sign_over s m k (.inl (by omega))
  | succ r ih =>
    intro m k hm h1 hk
    obtain ⟨k, rfl⟩ : ∃ j, k = j + 2 := ⟨k - 2, by omega⟩
    by_cases hs : m ≤ s.size
    · rw [(sign_step s m k h1 (by omega) hs (by omega)).2 (hno m h1 (by omega) hs)]
      exact ih (m + 1) k (by omega) (by omega) (by omega)
    · exact sign_over s m k (.inr (by omega))
theorem sign_found (s : ByteArray) (n : Nat) (h4 : n ≤ 4) (hs : n ≤ s.size) (ht : takes s n) (hno : ∀ m, 1 ≤ m → m < n → ¬ takes s m) : ∀ r m k : Nat, m + r = n → 1 ≤ m → 10 + 2 * r ≤ k → switchboardref02_Sign.l0 k s (m : Int) = some (((valR s n : Nat) : Int), (n : Int)) := by
  intro r
  induction r with
  | zero =>
    intro m k hm h1 hk
    obtain ⟨k, rfl⟩ : ∃ j, k = j + 2 := ⟨k - 2, by omega⟩
    obtain rfl : m = n := by omega
    exact (sign_step s m k h1 h4 hs (by omega)).1 ht
  | succ r ih =>
    intro m k hm h1 hk
    obtain ⟨k, rfl⟩ : ∃ j, k = j + 2 := ⟨k - 2, by omega⟩
    rw [(sign_step s m k h1 (by omega) (by omega) (by omega)).2 (hno m h1 (by omega))]
    exact ih (m + 1) k (by omega) (by omega) (by omega)

theorem signN_iff (c n : Nat) (hc : c < 256) (h : 2 ≤ n ∧ n ≤ 4) : signN c = n ↔ (n = 2 ∧ c / 32 = 6 ∨ n = 3 ∧ c / 16 = 14 ∨ n = 4 ∧ c / 8 = 30) := by
  unfold signN
  by_cases h1 : c / 32 = 6
  · rw [if_pos h1]; omega
  · rw [if_neg h1]
    by_cases h2 : c / 16 = 14
    · rw [if_pos h2]; omega
    · rw [if_neg h2]
      by_cases h3 : c / 8 = 30
      · rw [if_pos h3]; omega
      · rw [if_neg h3]; omega
theorem takes_iff (s : ByteArray) (n : Nat) (h : 2 ≤ n ∧ n ≤ 4) : takes s n ↔ signN (byteAt s 0) = n ∧ contOk s n ∧ ¬ badV n (valW s (firstV (byteAt s 0) n) (n - 1)) := by
  have hb := byteAt_lt s 0
  rw [signN_iff _ _ hb h]
  have hv : valR s n = valW s (firstV (byteAt s 0) n) (n - 1) := by unfold valR; rw [if_neg (by omega)]
  rw [← hv]
  unfold contOk
  rcases (show n = 2 ∨ n = 3 ∨ n = 4 by omega) with rfl | rfl | rfl
  · rw [takes_2]
    constructor
    · rintro ⟨h1, h2, h3⟩
      exact ⟨.inl ⟨rfl, h1⟩, fun k k1 k2 => by obtain rfl : k = 1 := by omega
                                               exact h2, h3⟩
    · rintro ⟨h1, h2, h3⟩
      exact ⟨by omega, h2 1 (by omega) (by omega), h3⟩
  · rw [takes_3]
    constructor
    · rintro ⟨h1, h2, h2', h3⟩
      refine ⟨.inr (.inl ⟨rfl, h1⟩), fun k k1 k2 => ?_, h3⟩
      rcases (show k = 1 ∨ k = 2 by omega) with rfl | rfl
      · exact h2
      · exact h2'
    · rintro ⟨h1, h2, h3⟩
      exact ⟨by omega, h2 1 (by omega) (by omega), h2 2 (by omega) (by omega), h3⟩
  · rw [takes_4]
    constructor
    · rintro ⟨h1, h2, h2', h2'', h3⟩
      refine ⟨.inr (.inr ⟨rfl, h1⟩), fun k k1 k2 => ?_, h3⟩
      rcases (show k = 1 ∨ k = 2 ∨ k = 3 by omega) with rfl | rfl | rfl
      · exact h2
      · exact h2'
      · exact h2''
    · rintro ⟨h1, h2, h3⟩
      exact ⟨by omega, h2 1 (by omega) (by omega), h2 2 (by omega) (by omega), h2 3 (by omega) (by omega), h3⟩
theorem signN_le (c : Nat) : signN c = 0 ∨ (2 ≤ signN c ∧ signN c ≤ 4) := by
  unfold signN
  split
  · omega
  · split
    · omega
    · split <;> omega
theorem sign_f {s : ByteArray} {v n : Nat} (h : SignW s v n) (k : Nat) (hk : 20 ≤ k) : switchboardref02_Sign.f k s = some ((v : Int), (n : Int)) := by
  show switchboardref02_Sign.l0 k s ((1 : Nat) : Int) = _
  have none : (∀ n, 1 ≤ n → n ≤ 4 → n ≤ s.size → ¬ takes s n) → switchboardref02_Sign.l0 k s ((1 : Nat) : Int) = some (((0 : Nat) : Int), ((0 : Nat) : Int)) := fun hno => sign_none s hno 4 1 k (by omega) (by omega) (by omega)
  have big : 128 ≤ byteAt s 0 → ∀ m, 1 ≤ m → m ≤ 4 → takes s m → signN (byteAt s 0) = m ∧ contOk s m ∧ ¬ badV m (valW s (firstV (byteAt s 0) m) (m - 1)) := by
    intro hb m h1 h4 ht
    by_cases hm : m = 1
    · subst hm
      have := (takes_1 s).1 ht
      omega
    · exact (takes_iff s m ⟨by omega, h4⟩).1 ht
  cases h with
  | none h => exact none (fun n h1 _ h3 _ => by omega)
  | one h h1 =>
    have := sign_found s 1 (by omega) (by omega) ((takes_1 s).2 h1) (fun m h1 h2 _ => by omega) 0 1 k rfl (by omega) (by omega)
    rw [this]
    rfl
  | first h h1 h2 =>
    refine none (fun m k1 k4 ks ht => ?_)
    have := (big h1 m k1 k4 ht).1
    omega
  | short n h h1 h2 h0 h3 =>
    refine none (fun m k1 k4 ks ht => ?_)
    have := (big h1 m k1 k4 ht).1
    omega
  | cont n j h h1 h2 h3 k1 k2 h4 =>
    refine none (fun m m1 m4 ms ht => ?_)
    obtain ⟨a, b, c⟩ := big h1 m m1 m4 ht
    obtain rfl : n = m := by omega
    exact h4 (b j k1 k2)
  | bad n h h1 h2 h0 h3 h4 h5 =>
    refine none (fun m m1 m4 ms ht => ?_)
    obtain ⟨a, b, c⟩ := big h1 m m1 m4 ht
    obtain rfl : n = m := by omega
    exact c h5
  | good n h h1 h2 h0 h3 h4 h5 =>
    have hn := signN_le (byteAt s 0)
    have hv : valR s n = valW s (firstV (byteAt s 0) n) (n - 1) := by unfold valR; rw [if_neg (by omega)]
    have := sign_found s n (by omega) h3 ((takes_iff s n (by omega)).2 ⟨h2, h4, h5⟩) (fun m m1 m2 ht => by
      have := (big h1 m m1 (by omega) ht).1
      omega) (n - 1) 1 k (by omega) (by omega) (by omega)
    rw [this, hv]

/-- A text is signs alone, none of them 0. -/
inductive GoodW : ByteArray → Bool → Prop
  | nil (s : ByteArray) (h : s.size = 0) : GoodW s true
  | bad (s : ByteArray) (v n : Nat) (h : 0 < s.size) (h1 : SignW s v n) (h2 : n = 0 ∨ v = 0) : GoodW s false
  | step (s : ByteArray) (v n : Nat) (b : Bool) (h : 0 < s.size) (h1 : SignW s v n) (h2 : n ≠ 0) (h3 : v ≠ 0) (h4 : GoodW (s.extract n s.size) b) : GoodW s b
theorem SignW.le {s : ByteArray} {v n : Nat} (h : SignW s v n) : n ≤ s.size := by
  cases h <;> omega
theorem extract_from (s : ByteArray) (k : Nat) : s.extract k s.size = ⟨(s.data.toList.drop k).toArray⟩ := by
  rw [Lib.extract_eq, Lib.size_eq, List.take_of_length_le (by simp)]
theorem extract_whole (s : ByteArray) : s.extract 0 s.size = s := by rw [extract_from]; simp
theorem drop_drop (s : ByteArray) (a n : Nat) (h : a + n ≤ s.size) : (s.extract a s.size).extract n (s.extract a s.size).size = s.extract (a + n) s.size := by
  rw [extract_from, extract_from, extract_from, List.toList_toArray, List.drop_drop]
theorem good_l0 (s : ByteArray) (hs : s.size ≤ 65535) {t : ByteArray} {b : Bool} (h : GoodW t b) : ∀ a i k, t = s.extract a s.size → a ≤ s.size → i ≤ a → 2 * (s.size - a) + 30 ≤ k → switchboardref02_Good.l0 k s (a : Int) (i : Int) = some b := by
  induction h with
  | nil t h =>
    rintro a i k rfl ha hi hk
    obtain ⟨k, rfl⟩ : ∃ j, k = j + 2 := ⟨k - 2, by omega⟩
    rw [ByteArray.size_extract] at h
    simp only [switchboardref02_Good.l0, switchboardref02_Good.j1]
    rw [if_pos (by omega), if_neg (by simp; omega)]
  | bad t v n h h1 h2 =>
    rintro a i k rfl ha hi hk
    obtain ⟨k, rfl⟩ : ∃ j, k = j + 2 := ⟨k - 2, by omega⟩
    rw [ByteArray.size_extract] at h
    simp only [switchboardref02_Good.l0, switchboardref02_Good.j1]
    rw [if_pos (by omega), if_pos (by simp; omega), if_pos (by omega), if_pos (by omega), Int.toNat_natCast, sign_f h1 k (by omega)]
    simp only [Option.bind_some]
    by_cases hn : n = 0
    · rw [if_pos (by omega)]
    · rw [if_neg (by omega), if_pos (by omega)]
  | step t v n b h h1 h2 h3 h4 ih =>
    rintro a i k rfl ha hi hk
    obtain ⟨k, rfl⟩ : ∃ j, k = j + 2 := ⟨k - 2, by omega⟩
    have hle := h1.le
    rw [ByteArray.size_extract] at h hle
    simp only [switchboardref02_Good.l0, switchboardref02_Good.j1]
    rw [if_pos (by omega), if_pos (by simp; omega), if_pos (by omega), if_pos (by omega), Int.toNat_natCast, sign_f h1 k (by omega)]
    simp only [Option.bind_some]
    rw [if_neg (by omega), if_neg (by omega), w64 (by omega) (by omega), w64 (by omega) (by omega)]
    have := ih (a + n) (i + 1) k (drop_drop s a n (by omega)) (by omega) (by omega) (by omega)
    rw [← this]
    push_cast
    rfl
theorem good_f {s : ByteArray} {b : Bool} (h : GoodW s b) (hs : s.size ≤ 65535) (k : Nat) (hk : 2 * s.size + 30 ≤ k) : switchboardref02_Good.f k s = some b := by
  unfold switchboardref02_Good.f
  rw [if_neg (by omega)]
  exact good_l0 s hs h 0 0 k (extract_whole s).symm (Nat.zero_le _) (Nat.le_refl _) (by omega)
end Go.Proofs.YtjlohmhmnghjkaaDoor
