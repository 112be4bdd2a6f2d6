/- The contract of the reference's among, out of the printed one. -/
import Derived.Test.YtbcpodbihldfgaaPSharePlaysx2
import Derived.Lib.Hide
namespace Go.Proofs.Ytbcpodbihldfgaa
open Go.RowKit Go.Proofs.YtbcpodbihldfgaaW.PrintWords Go.Proofs.Ytbcpodbihldfgaa.PSharePlays
set_option linter.unusedVariables false

def onI (l : List S57) (k : Nat) : List Int := ((List.range k).filter fun (i : Nat) => (rd_T57 l (i : Int)).f1).map fun (i : Nat) => (i : Int)
def allI (k : Nat) : List Int := (List.range k).map fun (i : Nat) => (i : Int)
def amongL (l : List S57) : List Int := if 0 < (onI l l.length).length then onI l l.length else allI l.length
theorem allI_succ (k : Nat) : allI (k + 1) = allI k ++ [(k : Int)] := by simp [allI, List.range_succ]
theorem onI_succ (l : List S57) (k : Nat) : onI l (k + 1) = if (rd_T57 l (k : Int)).f1 = true then onI l k ++ [(k : Int)] else onI l k := by
  unfold onI
  rw [List.range_succ, List.filter_append]
  by_cases h : (rd_T57 l (k : Int)).f1 = true
  · simp [h]
  · simp [h]
theorem onI_le (l : List S57) (k : Nat) : (onI l k).length ≤ k := by
  unfold onI
  rw [List.length_map]
  exact Nat.le_trans (List.length_filter_le _ _) (by simp)
theorem allI_len (k : Nat) : (allI k).length = k := by simp [allI]

theorem among_pure (l : List S57) (hl : l.length ≤ 1000) (d : Nat) : ∀ (k i : Nat), i ≤ l.length → l.length - i = d → d < k →
    switchboardref21_among.l0 k (onI l i) (allI i) l (l.length : Int) (i : Int) = some (amongL l) := by
  induction d with
  | zero =>
    intro k i hi hd hk
    obtain ⟨k, rfl⟩ : ∃ m, k = m + 1 := ⟨k - 1, by omega⟩
    obtain rfl : i = l.length := by omega
    simp only [switchboardref21_among.l0]
    rw [if_neg (by omega)]
    unfold amongL
    by_cases h : 0 < (onI l l.length).length
    · rw [if_pos (by omega), if_pos h]
    · rw [if_neg (by omega), if_neg h]
  | succ d ih =>
    intro k i hi hd hk
    obtain ⟨k, rfl⟩ : ∃ m, k = m + 1 := ⟨k - 1, by omega⟩
    have h1 := onI_le l i
    have h2 := allI_len i
    have hw : wrap64 ((i : Int) + 1) = ((i + 1 : Nat) : Int) := by unfold wrap64; omega
    have h := ih k (i + 1) (by omega) (by omega) (by omega)
    simp only [switchboardref21_among.l0]
    rw [if_pos (by omega), if_pos (by omega), if_pos (by omega), if_pos (by omega)]
    simp only [Option.bind_some]
    rw [hw, ← allI_succ]
    by_cases hf : (rd_T57 l (i : Int)).f1 = true
    · rw [if_pos hf, if_pos (by omega)]
      rw [onI_succ, if_pos hf] at h
      exact h
    · rw [if_neg hf]
      rw [onI_succ, if_neg hf] at h
      exact h

theorem among_calls {w : World} {A : Option Addr} {c : Nat} {l : List S57} (hr : Kd.C k57 w A l.length l) (hc : l.length ≤ c) (hl : l.length ≤ 1000) :
    Calls Try.prog 22 #[.slice A l.length c] w fun e w' => ∃ v, e = .returned v ∧ Hid (Kd.R (Kd.int .i64) 3 w' w.heap.size (fun _ => True) v (amongL l) ∧ Below w.heap.size w w') := by
  refine (switchboardref21_among.calls (l.length + 1) A c l (amongL l) w hr hc ?_).mono ?_
  · unfold switchboardref21_among.f
    exact among_pure l hl l.length (l.length + 1) 0 (by omega) (by omega) (by omega)
  · rintro e w' ⟨v, rfl, h1, h2⟩
    exact ⟨v, rfl, h1, h2⟩
end Go.Proofs.Ytbcpodbihldfgaa
