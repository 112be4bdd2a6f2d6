/- How much is taken: never less than would be written again. -/
import Derived.Test.YtljbchghbpmghaaGreatDoorHE
namespace Go.Proofs.YtljbchghbpmghaaGreatDoor
open Go.RowKit Go.Lib Go.Proofs.YtljbchghbpmghaaGreatDoorW.PrintWords Go.Proofs.YtljbchghbpmghaaGreatDoor.PSwitchboardGreat
set_option linter.unusedVariables false
set_option linter.unusedSimpArgs false
/-- If there is no error behind, there was none ahead, and n bytes or more were taken. -/
def Eat (s : ByteArray) (er : Int) (s' : ByteArray) (er' : Int) (n : Nat) : Prop := er' = 0 → er = 0 ∧ n + s'.size ≤ s.size
theorem Eat.refl (s : ByteArray) (er : Int) : Eat s er s er 0 := fun h => ⟨h, by omega⟩
theorem Eat.trans {s s1 s2 : ByteArray} {e e1 e2 : Int} {a b : Nat} (h : Eat s e s1 e1 a) (k : Eat s1 e1 s2 e2 b) : Eat s e s2 e2 (a + b) := fun h2 => by
  obtain ⟨h1, hb⟩ := k h2
  obtain ⟨h0, ha⟩ := h h1
  exact ⟨h0, by omega⟩
theorem Eat.le {s s1 : ByteArray} {e e1 : Int} {a b : Nat} (h : Eat s e s1 e1 a) (hb : b ≤ a) : Eat s e s1 e1 b := fun h2 => ⟨(h h2).1, by have := (h h2).2; omega⟩
theorem Eat.err {s s1 : ByteArray} {e e1 e2 : Int} {a : Nat} (h : Eat s e s1 e1 a) (he : e2 = 0 → e1 = 0) : Eat s e s1 e2 a := fun h2 => h (he h2)
theorem Eat.bad {s s1 : ByteArray} {e e1 : Int} {a : Nat} (h : e1 ≠ 0) : Eat s e s1 e1 a := fun h2 => absurd h2 h
theorem eat_rawN (s : ByteArray) (er : Int) (n : Nat) : Eat s er (rawR s er n).2.1 (rawR s er n).2.2 n := by
  unfold rawR Eat
  by_cases he : er = 0
  · rw [if_neg (by simpa using he)]
    by_cases hn : (s.size : Int) < n
    · rw [if_pos hn]; intro h; cases h
    · rw [if_neg hn]
      intro _
      refine ⟨he, ?_⟩
      simp only
      rw [ByteArray.size_extract, Int.toNat_natCast]
      omega
  · rw [if_pos he]
    intro h
    exact absurd h he
theorem eat_raw (s : ByteArray) (er : Int) (n : Nat) : Eat s er (rawR s er n).2.1 (rawR s er n).2.2 (rawR s er n).1.size := (eat_rawN s er n).le (raw_size s er n)
theorem byteN_eat (s : ByteArray) (er : Int) : Eat s er (byteN s er).2.1 (byteN s er).2.2 1 := by
  unfold byteN byteR Eat
  by_cases he : er = 0
  · rw [if_neg (by simpa using he)]
    by_cases hn : s.size = 0
    · rw [if_pos hn]; intro h; cases h
    · rw [if_neg hn]
      intro _
      refine ⟨he, ?_⟩
      simp only
      rw [ByteArray.size_extract]
      omega
  · rw [if_pos he]
    intro h
    exact absurd h he
theorem eat_data (s : ByteArray) (er : Int) : Eat s er (dataR s er).2.1 (dataR s er).2.2 (2 + (dataR s er).1.size) :=
  (eat_rawN s er 2).trans (eat_raw _ _ _)
theorem varU_le : ∀ (m n : Nat), 0 < m → n < 128 ^ m → (varU n).length ≤ m
  | 0, _, h, _ => absurd h (by decide)
  | m + 1, n, _, hn => by
    by_cases h : n < 128
    · rw [varU_lt h]; show 1 ≤ m + 1; omega
    · rw [varU_ge h, List.length_cons]
      have hm : 0 < m := by
        rcases Nat.eq_zero_or_pos m with rfl | hp
        · rw [Nat.pow_one] at hn; omega
        · exact hp
      have := varU_le m (n / 128) hm (by rw [Nat.pow_succ] at hn; exact Nat.div_lt_of_lt_mul (by rw [Nat.mul_comm]; exact hn))
      omega
theorem varU_mono {a b : Nat} (h : a ≤ b) : (varU a).length ≤ (varU b).length := by
  induction b using Nat.strongRecOn generalizing a with
  | ind b ih =>
    by_cases ha : a < 128
    · rw [varU_lt ha]; exact varU_pos b
    · rw [varU_ge ha, varU_ge (show ¬ b < 128 by omega), List.length_cons, List.length_cons]
      have := ih (b / 128) (by omega) (show a / 128 ≤ b / 128 by omega)
      omega
theorem varG_eat : ∀ (j v : Nat) (s : ByteArray) (er : Int), j < 4 → v < 128 ^ (3 - j) → (varG (j + 1) v s er).2.2 = 0 → er = 0 ∧ ∃ c, 0 < c ∧ c + (varG (j + 1) v s er).2.1.size ≤ s.size ∧ (varG (j + 1) v s er).1 < 128 ^ (3 - j + c) := by
  intro j
  induction j with
  | zero =>
    intro v s er hj hv
    have hb := byteN_eat s er
    have hstep : v + (byteN s er).1 % 128 * 128 ^ (3 - 0) < 128 ^ (3 - 0 + 1) := by
      have e : (128 : Nat) ^ (3 - 0 + 1) = 128 ^ (3 - 0) * 128 := Nat.pow_succ ..
      have h2 : (byteN s er).1 % 128 * 128 ^ (3 - 0) ≤ 127 * 128 ^ (3 - 0) := Nat.mul_le_mul_right _ (by omega)
      rw [e]; omega
    unfold varG
    split
    · intro h; exact absurd h ‹_›
    · split
      · omega
      · split
        · intro h; cases h
        · intro h
          obtain ⟨h1, h2⟩ := hb h
          exact ⟨h1, 1, by decide, h2, hstep⟩
  | succ j ih =>
    intro v s er hj hv
    have hb := byteN_eat s er
    have hstep : v + (byteN s er).1 % 128 * 128 ^ (3 - (j + 1)) < 128 ^ (3 - j) := by
      have e : (128 : Nat) ^ (3 - j) = 128 ^ (3 - (j + 1)) * 128 := by rw [← Nat.pow_succ]; congr 1; omega
      have h2 : (byteN s er).1 % 128 * 128 ^ (3 - (j + 1)) ≤ 127 * 128 ^ (3 - (j + 1)) := Nat.mul_le_mul_right _ (by omega)
      rw [e]; omega
    rw [varG]
    split
    · intro h; exact absurd h ‹_›
    · split
      · intro h
        obtain ⟨h1, c, hc, h2, h3⟩ := ih _ _ _ (by omega) hstep h
        obtain ⟨h4, h5⟩ := hb h1
        refine ⟨h4, c + 1, by omega, by omega, ?_⟩
        rw [show 3 - (j + 1) + (c + 1) = 3 - j + c by omega]
        exact h3
      · split
        · intro h; cases h
        · intro h
          obtain ⟨h1, h2⟩ := hb h
          refine ⟨h1, 1, by decide, h2, ?_⟩
          rw [show 3 - (j + 1) + 1 = 3 - j by omega]
          exact hstep
theorem eat_var (s : ByteArray) (er : Int) : Eat s er (varR s er).2.1 (varR s er).2.2 (varU (varR s er).1).length := by
  unfold varR
  intro h
  obtain ⟨h1, c, hc, h2, h3⟩ := varG_eat 3 0 s er (by decide) (by decide) h
  rw [show 3 + 1 = 4 from rfl] at h2 h3
  refine ⟨h1, ?_⟩
  have := varU_le (3 - 3 + c) _ (by omega) h3
  omega
theorem eat_take (s : ByteArray) (er : Int) (b : Bool) : Eat s er (dataR s er).2.1 (takeE (dataR s er) b) (2 + (takeV (dataR s er) b).size) := by
  cases b with
  | true => exact eat_data s er
  | false =>
    refine Eat.bad ?_
    unfold takeE
    simp only [Bool.false_eq_true, if_false]
    split
    · decide
    · assumption
theorem takeV_size (d : ByteArray × ByteArray × Int) (b : Bool) (h : d.1.size ≤ 65535) : (takeV d b).size ≤ 65535 := by
  cases b
  · exact Nat.zero_le _
  · exact h
end Go.Proofs.YtljbchghbpmghaaGreatDoor
