/- switchboardref02.Sign says the same as word.Sign. -/
import Derived.Test.YtjlohmhmnghjkaaDoorE
namespace Go.Proofs.YtjlohmhmnghjkaaDoor
open Go.RowKit Go.Lib Go.Proofs.YtjlohmhmnghjkaaDoorW.PrintWords Go.Proofs.YtjlohmhmnghjkaaDoor.PTopicReads
set_option linter.unusedVariables false
set_option linter.unusedSimpArgs false

theorem valW_lt' (s : ByteArray) (v0 : Nat) (h : v0 < 256) (k : Nat) : valW s v0 k < 256 * 64 ^ k := by
  induction k with
  | zero => simpa [valW] using h
  | succ k ih =>
    unfold valW
    rw [Nat.pow_succ]
    omega
theorem valW_lt4 (s : ByteArray) (v0 : Nat) (h : v0 < 256) (k : Nat) (hk : k ≤ 3) : valW s v0 k < 67108864 := by
  have := valW_lt' s v0 h k
  rcases (show k = 0 ∨ k = 1 ∨ k = 2 ∨ k = 3 by omega) with rfl | rfl | rfl | rfl <;> omega
theorem value_l0 (s : ByteArray) (v0 n : Nat) (hv : v0 < 256) (hn : n ≤ 4) (hns : n ≤ s.size) : ∀ r i k, i + r = n → 1 ≤ i → r < k → switchboardref02_value.l0 k s (n : Int) ((valW s v0 (i - 1) : Nat) : Int) (i : Int) = some ((valW s v0 (n - 1) : Nat) : Int) := by
  intro r
  induction r with
  | zero =>
    intro i k hi h1 hk
    obtain ⟨k, rfl⟩ : ∃ m, k = m + 1 := ⟨k - 1, by omega⟩
    obtain rfl : i = n := by omega
    simp only [switchboardref02_value.l0]
    rw [if_neg (by omega)]
  | succ r ih =>
    intro i k hi h1 hk
    obtain ⟨k, rfl⟩ : ∃ m, k = m + 1 := ⟨k - 1, by omega⟩
    simp only [switchboardref02_value.l0]
    rw [if_pos (by omega), if_pos (by omega), if_pos (by omega)]
    have hb := bt_nat s i (by omega)
    have hbl := byteAt_lt s i
    have hV := valW_lt4 s v0 hv (i - 1) (by omega)
    have e1 : wrap64 ((i : Int) + 1) = ((i + 1 : Nat) : Int) := by rw [w64 (by omega) (by omega)]; push_cast; rfl
    have e2 : wrap64 (wrap64 (((valW s v0 (i - 1) : Nat) : Int) * 64) + Int.tmod (wrap64 (bt s (i : Int))) 64) = ((valW s v0 (i + 1 - 1) : Nat) : Int) := by
      obtain ⟨j, rfl⟩ : ∃ j, i = j + 1 := ⟨i - 1, by omega⟩
      rw [hb, w64 (n := (byteAt s (j + 1) : Int)) (by omega) (by omega), Int.tmod_eq_emod_of_nonneg (by omega), w64 (n := _ * 64) (by omega) (by omega), w64 (by omega) (by omega)]
      show _ = ((valW s v0 (j + 1) : Nat) : Int)
      simp only [valW, Nat.add_sub_cancel]
      push_cast
      rfl
    rw [e1, e2]
    exact ih (i + 1) k (by omega) (by omega) (by omega)
theorem value_f (s : ByteArray) (n k : Nat) (h1 : 1 ≤ n) (hn : n ≤ 4) (hns : n ≤ s.size) (hk : 8 ≤ k) : switchboardref02_value.f k s (n : Int) = some ((valR s n : Nat) : Int) := by
  obtain ⟨k, rfl⟩ : ∃ m, k = m + 1 := ⟨k - 1, by omega⟩
  have hb := bt_nat s 0 (by omega)
  have hbl := byteAt_lt s 0
  unfold switchboardref02_value.f
  rw [if_pos (by omega)]
  have hw : wrap64 (bt s 0) = (byteAt s 0 : Int) := by
    have : bt s 0 = (byteAt s 0 : Int) := hb
    rw [this, w64 (by omega) (by omega)]
  have fin : ∀ v0 : Nat, v0 < 256 → (v : Int) → v = (v0 : Int) → switchboardref02_value.j0 (k + 1) s (n : Int) v = some ((valW s v0 (n - 1) : Nat) : Int) := by
    rintro v0 hv0 v rfl
    simp only [switchboardref02_value.j0]
    exact value_l0 s v0 n hv0 hn hns (n - 1) 1 k (by omega) (Nat.le_refl _) (by omega)
  have em : ∀ d : Int, 0 < d → Int.tmod (byteAt s 0 : Int) d = (byteAt s 0 : Int) % d := fun d hd => Int.tmod_eq_emod_of_nonneg (by omega)
  rcases (show n = 1 ∨ n = 2 ∨ n = 3 ∨ n = 4 by omega) with rfl | rfl | rfl | rfl
  · rw [if_neg (by omega), if_neg (by omega), if_neg (by omega), hw]
    exact fin (byteAt s 0) hbl _ rfl
  · rw [if_pos (by omega), hw, em _ (by omega)]
    exact fin (byteAt s 0 % 32) (by omega) _ (by omega)
  · rw [if_neg (by omega), if_pos (by omega), hw, em _ (by omega)]
    exact fin (byteAt s 0 % 16) (by omega) _ (by omega)
  · rw [if_neg (by omega), if_neg (by omega), if_pos (by omega), hw, em _ (by omega)]
    exact fin (byteAt s 0 % 8) (by omega) _ (by omega)
theorem sign_over (s : ByteArray) (n k : Nat) (h : 4 < n ∨ s.size < n) : switchboardref02_Sign.l0 (k + 2) s (n : Int) = some (0, 0) := by
  simp only [switchboardref02_Sign.l0, switchboardref02_Sign.j1]
  by_cases h4 : 4 < n
  · rw [if_neg (by omega)]; simp
  · rw [if_pos (by omega), if_neg (by simp; omega)]
theorem sign_step (s : ByteArray) (n k : Nat) (h1 : 1 ≤ n) (h4 : n ≤ 4) (hs : n ≤ s.size) (hk : 8 ≤ k) :
    (takes s n → switchboardref02_Sign.l0 (k + 2) s (n : Int) = some (((valR s n : Nat) : Int), (n : Int))) ∧ (¬ takes s n → switchboardref02_Sign.l0 (k + 2) s (n : Int) = switchboardref02_Sign.l0 k s ((n + 1 : Nat) : Int)) := by
  have hv := value_f s n k h1 h4 hs hk
  have e1 : wrap64 ((n : Int) + 1) = ((n + 1 : Nat) : Int) := by rw [w64 (by omega) (by omega)]; push_cast; rfl
  have e2 : switchboardref02_Sign.l0 (k + 2) s (n : Int) = switchboardref02_Sign.j1 (k + 1) s (n : Int) true := by
    simp only [switchboardref02_Sign.l0]
    rw [if_pos (by omega)]
    congr 1
    exact decide_eq_true (by omega)
  rw [e2]
  simp only [switchboardref02_Sign.j1, hv, Option.bind_some, if_true, e1, Int.toNat_natCast]
  generalize hV : valR s n = V
  have ht : takes s n ↔ V ≤ 1114111 ∧ (V < 55296 ∨ 57343 < V) ∧ spellN V = firstN s n := by unfold takes; rw [hV]
  rw [ht]
  by_cases c1 : V ≤ 1114111
  · rw [if_pos (by omega), spell_f V c1]
    have hse := spell_eq s V n c1 hs
    by_cases c2 : V < 55296
    · rw [if_pos (by omega)]
      simp only [Option.bind_some]
      rw [if_pos (by omega), if_pos (by omega)]
      by_cases c3 : spellN V = firstN s n
      · rw [if_pos (hse.2 c3)]
        exact ⟨fun _ => rfl, fun h => absurd ⟨c1, .inl c2, c3⟩ h⟩
      · rw [if_neg (fun h => c3 (hse.1 h))]
        exact ⟨fun h => absurd h.2.2 c3, fun _ => rfl⟩
    · rw [if_neg (by omega)]
      by_cases c4 : 57343 < V
      · rw [if_pos (by omega)]
        simp only [Option.bind_some]
        rw [if_pos (by omega), if_pos (by omega)]
        by_cases c3 : spellN V = firstN s n
        · rw [if_pos (hse.2 c3)]
          exact ⟨fun _ => rfl, fun h => absurd ⟨c1, .inr c4, c3⟩ h⟩
        · rw [if_neg (fun h => c3 (hse.1 h))]
          exact ⟨fun h => absurd h.2.2 c3, fun _ => rfl⟩
      · rw [if_neg (by omega)]
        exact ⟨fun h => by have := h.2.1; omega, fun _ => rfl⟩
  · rw [if_neg (by omega)]
    exact ⟨fun h => absurd h.1 c1, fun _ => rfl⟩
end Go.Proofs.YtjlohmhmnghjkaaDoor
