/- What the reader of frames does with a part of a frame, and with any bytes. -/
import Derived.Test.YtljbchghbpmghaaGreatDoorS1
namespace Go.Proofs.YtljbchghbpmghaaGreatDoor
open Go.RowKit Go.Lib Go.Proofs.YtljbchghbpmghaaGreatDoorW.PrintWords Go.Proofs.YtljbchghbpmghaaGreatDoor.PSwitchboardGreat
set_option linter.unusedVariables false
set_option linter.unusedSimpArgs false
theorem varG_short : ∀ (j v n : Nat) (p q : List UInt8), q ≠ [] → varU n = p ++ q → j < 4 → n < 128 ^ (j + 1) → (varG (j + 1) v (toB p) 0).2.2 = 1
  | j, v, n, [], q, hq, h, hj, hn => by
    rw [varG, byteN_nil]
    simp
  | j, v, n, x :: p, q, hq, h, hj, hn => by
    by_cases hlt : n < 128
    · rw [varU_lt hlt] at h
      injection h with h1 h2
      exact absurd (List.append_eq_nil_iff.1 h2.symm).2 hq
    · rw [varU_ge hlt, List.cons_append] at h
      injection h with h1 h2
      have hj0 : 0 < j := by
        rcases Nat.eq_zero_or_pos j with rfl | hp
        · rw [Nat.pow_one] at hn; omega
        · exact hp
      obtain ⟨i, rfl⟩ : ∃ i, j = i + 1 := ⟨j - 1, by omega⟩
      have hn2 : n / 128 < 128 ^ (i + 1) := by
        rw [Nat.pow_succ] at hn
        exact Nat.div_lt_of_lt_mul (by rw [Nat.mul_comm]; exact hn)
      subst h1
      rw [varG, byteN_cons, ofNat_toNat (by omega)]
      simp only
      rw [if_neg (by decide), if_pos ⟨by omega, hj0⟩]
      exact varG_short i _ (n / 128) p q hq h2 (by omega) hn2
theorem var_short (n : Nat) (hn : n ≤ 268435455) (p q : List UInt8) (hq : q ≠ []) (h : varU n = p ++ q) : (varR (toB p) 0).2.2 = 1 :=
  varG_short 3 0 n p q hq h (by decide) (by have : (128 : Nat) ^ 4 = 268435456 := by decide
                                            omega)
/-- A part of a frame: the reader waits. -/
theorem nextF_short (most : Int) (k f : Nat) (body : ByteArray) (p q : List UInt8) (hp : p ≠ []) (hq : q ≠ []) (h : frB k f body = p ++ q) (hk : k < 16) (hf : f < 16) (hc : chk k f = 0) (hb : body.size ≤ 268435455) (hm : ¬ most < (((frB k f body).length : Nat) : Int)) :
    nextF most (toB p) = ((0, 0, ⟨#[]⟩, 1), (toB p, 0)) := by
  rw [frB_size] at hm
  cases p with
  | nil => exact absurd rfl hp
  | cons x p =>
    unfold frB at h
    rw [List.cons_append] at h
    injection h with h1 h2
    subst h1
    have hh : byA (toB (UInt8.ofNat (k * 16 + f) :: p)) 0 = k * 16 + f := by rw [byA_cons, ofNat_toNat (by omega)]
    have h3 : (k * 16 + f) / 16 = k := by omega
    have h4 : (k * 16 + f) % 16 = f := by omega
    have hx : (toB (UInt8.ofNat (k * 16 + f) :: p)).extract 1 (toB (UInt8.ofNat (k * 16 + f) :: p)).size = toB p := toB_drop [UInt8.ofNat (k * 16 + f)] p
    unfold nextF
    rw [hh, h3, h4, hx, if_neg (by rw [hc]; decide)]
    simp only
    rcases List.append_eq_append_iff.1 h2 with ⟨a, ha, hb2⟩ | ⟨a, ha, hb2⟩
    · subst ha
      rw [var_app _ hb]
      simp only
      have hz : a.length < body.size := by
        have h5 := congrArg List.length hb2
        rw [List.length_append, ← Lib.size_eq] at h5
        have : q.length ≠ 0 := fun h => hq (List.length_eq_zero_iff.1 h)
        omega
      rw [if_neg (by decide), if_neg (by decide), if_neg hm, if_pos (by rw [toB_size]; exact hz)]
    · by_cases hz : a = []
      · subst hz
        rw [List.append_nil] at ha
        subst ha
        have h6 := var_app body.size hb []
        rw [List.append_nil] at h6
        rw [h6]
        simp only
        have hbz : 0 < body.size := by
          rw [List.nil_append] at hb2
          rw [Lib.size_eq, ← hb2]
          exact List.length_pos_iff.2 hq
        rw [if_neg (by decide), if_neg (by decide), if_neg hm, if_pos (by rw [toB_size]; exact hbz)]
      · rw [if_pos (var_short body.size hb p a hz ha)]
/-- What a frame is that the reader gives. -/
theorem nextF_take (most : Int) (s : ByteArray) (h0 : 0 < s.size) (he : (nextF most s).1.2.2.2 = 0) : (nextF most s).1.1 < 16 ∧ (nextF most s).1.2.1 < 16 ∧ (nextF most s).2.2 = 0 ∧ 1 + (varU (nextF most s).1.2.2.1.size).length + (nextF most s).1.2.2.1.size + (nextF most s).2.1.size ≤ s.size := by
  unfold nextF at he ⊢
  have hlt := byA_lt s 0
  have hE := eat_var (s.extract 1 s.size) 0
  have hx : (s.extract 1 s.size).size = s.size - 1 := by rw [ByteArray.size_extract]; omega
  split at he
  · exact absurd he (by simp)
  · rename_i hc
    rw [if_neg hc]
    simp only at he ⊢
    by_cases h1 : (varR (s.extract 1 s.size) 0).2.2 = 1
    · rw [if_pos h1] at he
      exact absurd he (by simp)
    · rw [if_neg h1] at he ⊢
      by_cases h2 : (varR (s.extract 1 s.size) 0).2.2 = 0
      · rw [if_neg (by rw [h2]; decide)] at he ⊢
        have hE2 := (hE h2).2
        by_cases h3 : most < ((1 + (varU (varR (s.extract 1 s.size) 0).1).length + (varR (s.extract 1 s.size) 0).1 : Nat) : Int)
        · rw [if_pos h3] at he
          exact absurd he (by simp)
        · rw [if_neg h3] at he ⊢
          by_cases h4 : (varR (s.extract 1 s.size) 0).2.1.size < (varR (s.extract 1 s.size) 0).1
          · rw [if_pos h4] at he
            exact absurd he (by simp)
          · rw [if_neg h4] at he ⊢
            simp only
            generalize varR (s.extract 1 s.size) 0 = V at *
            have e1 : (V.2.1.extract 0 V.1).size = V.1 := by rw [ByteArray.size_extract]; omega
            have e2 : (V.2.1.extract V.1 V.2.1.size).size = V.2.1.size - V.1 := by rw [ByteArray.size_extract]; omega
            rw [e1, e2]
            exact ⟨by omega, by omega, by simp, by omega⟩
      · rw [if_pos h2] at he
        exact absurd he h2
end Go.Proofs.YtljbchghbpmghaaGreatDoor
