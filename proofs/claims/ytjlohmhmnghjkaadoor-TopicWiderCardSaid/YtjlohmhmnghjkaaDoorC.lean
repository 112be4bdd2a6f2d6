/- word.Sign: what it computes. -/
import Derived.Test.YtjlohmhmnghjkaaDoorB
import Derived.Laws.BitsLemmas
namespace Go.Proofs.YtjlohmhmnghjkaaDoor
open Go.RowKit Go.Lib
set_option linter.unusedVariables false
set_option linter.unusedSimpArgs false

def byteAt (s : ByteArray) (k : Nat) : Nat := (s.get! k).toNat
/-- How many bytes a sign has, by its first one (not below 128); 0: none begins so. -/
def signN (c : Nat) : Nat := if c / 32 = 6 then 2 else if c / 16 = 14 then 3 else if c / 8 = 30 then 4 else 0
def firstV (c n : Nat) : Nat := if n = 2 then c % 32 else if n = 3 then c % 16 else c % 8
def valW (s : ByteArray) (v0 : Nat) : Nat → Nat
  | 0 => v0
  | k + 1 => valW s v0 k * 64 + byteAt s (k + 1) % 64
def leastV (n : Nat) : Nat := if n = 2 then 128 else if n = 3 then 2048 else 65536
def contOk (s : ByteArray) (n : Nat) : Prop := ∀ k, 1 ≤ k → k < n → byteAt s k / 64 = 2
def badV (n v : Nat) : Prop := v < leastV n ∨ 1114111 < v ∨ (55296 ≤ v ∧ v ≤ 57343)
/-- (v, n) is the sign at the beginning of s, and how many bytes it has. -/
inductive SignW (s : ByteArray) : Nat → Nat → Prop
  | none (h : s.size = 0) : SignW s 0 0
  | one (h : 0 < s.size) (h1 : byteAt s 0 < 128) : SignW s (byteAt s 0) 1
  | first (h : 0 < s.size) (h1 : 128 ≤ byteAt s 0) (h2 : signN (byteAt s 0) = 0) : SignW s 0 0
  | short (n : Nat) (h : 0 < s.size) (h1 : 128 ≤ byteAt s 0) (h2 : signN (byteAt s 0) = n) (h0 : 0 < n) (h3 : s.size < n) : SignW s 0 0
  | cont (n k : Nat) (h : 0 < s.size) (h1 : 128 ≤ byteAt s 0) (h2 : signN (byteAt s 0) = n) (h3 : n ≤ s.size) (k1 : 1 ≤ k) (k2 : k < n) (h4 : byteAt s k / 64 ≠ 2) : SignW s 0 0
  | bad (n : Nat) (h : 0 < s.size) (h1 : 128 ≤ byteAt s 0) (h2 : signN (byteAt s 0) = n) (h0 : 0 < n) (h3 : n ≤ s.size) (h4 : contOk s n) (h5 : badV n (valW s (firstV (byteAt s 0) n) (n - 1))) : SignW s 0 0
  | good (n : Nat) (h : 0 < s.size) (h1 : 128 ≤ byteAt s 0) (h2 : signN (byteAt s 0) = n) (h0 : 0 < n) (h3 : n ≤ s.size) (h4 : contOk s n) (h5 : ¬ badV n (valW s (firstV (byteAt s 0) n) (n - 1))) : SignW s (valW s (firstV (byteAt s 0) n) (n - 1)) n

theorem signN_2 {c : Nat} (h : signN c = 2) : c / 32 = 6 := by
  unfold signN at h
  by_cases h1 : c / 32 = 6
  · exact h1
  · rw [if_neg h1] at h
    by_cases h2 : c / 16 = 14
    · rw [if_pos h2] at h; omega
    · rw [if_neg h2] at h
      by_cases h3 : c / 8 = 30
      · rw [if_pos h3] at h; omega
      · rw [if_neg h3] at h; omega
theorem signN_3 {c : Nat} (h : signN c = 3) : c / 32 ≠ 6 ∧ c / 16 = 14 := by
  unfold signN at h
  by_cases h1 : c / 32 = 6
  · rw [if_pos h1] at h; omega
  · rw [if_neg h1] at h
    by_cases h2 : c / 16 = 14
    · exact ⟨h1, h2⟩
    · rw [if_neg h2] at h
      by_cases h3 : c / 8 = 30
      · rw [if_pos h3] at h; omega
      · rw [if_neg h3] at h; omega
theorem signN_4 {c : Nat} (h : signN c = 4) : c / 32 ≠ 6 ∧ c / 16 ≠ 14 ∧ c / 8 = 30 := by
  unfold signN at h
  by_cases h1 : c / 32 = 6
  · rw [if_pos h1] at h; omega
  · rw [if_neg h1] at h
    by_cases h2 : c / 16 = 14
    · rw [if_pos h2] at h; omega
    · rw [if_neg h2] at h
      by_cases h3 : c / 8 = 30
      · exact ⟨h1, h2, h3⟩
      · rw [if_neg h3] at h; omega
theorem signN_0 {c : Nat} (h : signN c = 0) : c / 32 ≠ 6 ∧ c / 16 ≠ 14 ∧ c / 8 ≠ 30 := by
  unfold signN at h
  by_cases h1 : c / 32 = 6
  · rw [if_pos h1] at h; omega
  · rw [if_neg h1] at h
    by_cases h2 : c / 16 = 14
    · rw [if_pos h2] at h; omega
    · rw [if_neg h2] at h
      by_cases h3 : c / 8 = 30
      · rw [if_pos h3] at h; omega
      · exact ⟨h1, h2, h3⟩
theorem byteAt_of {s : ByteArray} {k : Nat} (h : k < s.size) : byteAt s k = (s[k]'h).toNat := by
  unfold byteAt
  rw [get!_of (Lib.data_getElem? s k h)]
theorem valW_lt (s : ByteArray) (v0 : Nat) (h : v0 < 32) (k : Nat) : valW s v0 k < 32 * 64 ^ k := by
  induction k with
  | zero => simpa [valW] using h
  | succ k ih =>
    unfold valW
    rw [Nat.pow_succ]
    omega
theorem valW_lt3 (s : ByteArray) (v0 : Nat) (h : v0 < 32) (k : Nat) (hk : k ≤ 2) : valW s v0 k < 131072 + 1 := by
  have := valW_lt s v0 h k
  rcases (show k = 0 ∨ k = 1 ∨ k = 2 by omega) with rfl | rfl | rfl <;> omega
theorem or_step (V m : Nat) (hV : V < 131072 + 1) (hm : m < 64) : bits BinOp.or IntKind.i32 (wrap32 ((V : Int) * 64)) (wrap32 (m : Int)) = ((V * 64 + m : Nat) : Int) ∧ bits BinOp.or IntKind.i32 ((V : Int) * 64) (m : Int) = ((V * 64 + m : Nat) : Int) ∧ bits BinOp.or IntKind.i32 (wrap32 ((V : Int) * 64)) (m : Int) = ((V * 64 + m : Nat) : Int) ∧ bits BinOp.or IntKind.i32 ((V : Int) * 64) (wrap32 (m : Int)) = ((V * 64 + m : Nat) : Int) := by
  have e1 : wrap32 ((V : Int) * 64) = (V : Int) * 64 := by unfold wrap32; omega
  have e2 : wrap32 (m : Int) = (m : Int) := by unfold wrap32; omega
  have e : bits BinOp.or IntKind.i32 ((V : Int) * 64) (m : Int) = ((V * 64 + m : Nat) : Int) := by
    rw [i32_or6 _ _ (by omega) (by omega) (by omega) (by omega) (by omega)]
    push_cast; rfl
  rw [e1, e2]
  exact ⟨e, e, e, e⟩
theorem bad_of {n V : Nat} (l : Nat) (hl : leastV n = l) (h : (V : Int) < (l : Int) ∨ (1114111 : Int) < V ∨ (55296 ≤ (V : Int) ∧ (V : Int) ≤ 57343)) : badV n V := by
  unfold badV
  rw [hl]
  omega
theorem good_of {n V : Nat} (l : Nat) (hl : leastV n = l) (h : ¬ ((V : Int) < (l : Int) ∨ (1114111 : Int) < V ∨ (55296 ≤ (V : Int) ∧ (V : Int) ≤ 57343))) : ¬ badV n V := by
  unfold badV
  rw [hl]
  omega
theorem and_first (x n : Nat) (hx : x < 256) (hn : n = 2 ∨ n = 3 ∨ n = 4) : bits BinOp.and IntKind.i32 (x : Int) (if n = 2 then 31 else if n = 3 then 15 else 7) = (firstV x n : Nat) := by
  have h : ∀ x : Nat, x < 256 → bits BinOp.and IntKind.i32 (x : Int) 31 = (firstV x 2 : Nat) ∧ bits BinOp.and IntKind.i32 (x : Int) 15 = (firstV x 3 : Nat) ∧ bits BinOp.and IntKind.i32 (x : Int) 7 = (firstV x 4 : Nat) := by decide +kernel
  rcases hn with rfl | rfl | rfl
  · exact (h x hx).1
  · exact (h x hx).2.1
  · exact (h x hx).2.2

def SignPost (s : ByteArray) (w : World) (e : Ending) (w' : World) : Prop := ∃ v n, e = .returned (.tuple #[.int .i32 (v : Nat), .int .i64 (n : Nat)]) ∧ SignW s v n ∧ Below w.heap.size w w'
end Go.Proofs.YtjlohmhmnghjkaaDoor
