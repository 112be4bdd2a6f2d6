/- switchboardref02.Sign says the same as word.Sign: plain numbers. -/
import Derived.Test.YtjlohmhmnghjkaaDoorQ4
import Derived.Test.YtjlohmhmnghjkaaDoorD
namespace Go.Proofs.YtjlohmhmnghjkaaDoor
open Go.RowKit Go.Lib Go.Proofs.YtjlohmhmnghjkaaDoorW.PrintWords Go.Proofs.YtjlohmhmnghjkaaDoor.PTopicReads
set_option linter.unusedVariables false
set_option linter.unusedSimpArgs false

theorem w64 {n : Int} (h0 : -9223372036854775808 ≤ n) (h1 : n < 9223372036854775808) : wrap64 n = n := by unfold wrap64; omega
def spellN (v : Nat) : List Nat :=
  if v < 128 then [v] else if v < 2048 then [192 + v / 64, 128 + v % 64] else if v < 65536 then [224 + v / 4096, 128 + v / 64 % 64, 128 + v % 64] else [240 + v / 262144, 128 + v / 4096 % 64, 128 + v / 64 % 64, 128 + v % 64]
theorem spellN_lt (v : Nat) (hv : v ≤ 1114111) : ∀ x ∈ spellN v, x < 256 := by
  unfold spellN
  intro x hx
  split at hx
  · simp at hx; omega
  · split at hx
    · simp at hx; omega
    · split at hx
      · simp at hx; omega
      · simp at hx; omega
theorem spell_f (v : Nat) (hv : v ≤ 1114111) : switchboardref02_Spell.f (v : Int) = some (strOfNums ((spellN v).map (fun n : Nat => (n : Int)))) := by
  unfold switchboardref02_Spell.f spellN
  simp only [Int.tdiv_eq_ediv_of_nonneg (Int.natCast_nonneg v), Int.tmod_eq_emod_of_nonneg (Int.natCast_nonneg v)]
  have t1 : ∀ d : Int, 0 ≤ d → 0 ≤ (v : Int) / d := fun d hd => Int.ediv_nonneg (Int.natCast_nonneg v) hd
  by_cases h1 : v < 128
  · rw [if_pos (by omega), if_pos h1]
    congr 2
    simp only [List.map_cons, List.map_nil, List.cons.injEq, and_true]
    omega
  rw [if_neg (by omega), if_neg h1]
  by_cases h2 : v < 2048
  · rw [if_pos (by omega), if_pos h2]
    congr 2
    simp only [List.map_cons, List.map_nil, List.cons.injEq, and_true]
    rw [w64 (n := (v : Int) / 64) (by omega) (by omega), w64 (by omega) (by omega), w64 (by omega) (by omega)]
    omega
  rw [if_neg (by omega), if_neg h2]
  by_cases h3 : v < 65536
  · rw [if_pos (by omega), if_pos h3]
    congr 2
    simp only [List.map_cons, List.map_nil, List.cons.injEq, and_true]
    rw [w64 (n := (v : Int) / 4096) (by omega) (by omega), w64 (n := 224 + _) (by omega) (by omega), w64 (n := (v : Int) / 64) (by omega) (by omega), Int.tmod_eq_emod_of_nonneg (by omega), w64 (n := 128 + (v : Int) / 64 % 64) (by omega) (by omega), w64 (by omega) (by omega)]
    omega
  rw [if_neg (by omega), if_neg h3]
  congr 2
  simp only [List.map_cons, List.map_nil, List.cons.injEq, and_true]
  rw [w64 (n := (v : Int) / 262144) (by omega) (by omega), w64 (n := 240 + _) (by omega) (by omega), w64 (n := (v : Int) / 4096) (by omega) (by omega), Int.tmod_eq_emod_of_nonneg (by omega), w64 (n := 128 + (v : Int) / 4096 % 64) (by omega) (by omega), w64 (n := (v : Int) / 64) (by omega) (by omega), Int.tmod_eq_emod_of_nonneg (by omega), w64 (n := 128 + (v : Int) / 64 % 64) (by omega) (by omega), w64 (by omega) (by omega)]
  omega

theorem bt_nat (s : ByteArray) (k : Nat) (h : k < s.size) : bt s (k : Int) = (byteAt s k : Int) := by
  unfold bt
  rw [dif_pos (by simpa using h), byteAt_of h]
  simp
theorem byteAt_lt (s : ByteArray) (k : Nat) : byteAt s k < 256 := by unfold byteAt; exact UInt8.toNat_lt _
theorem map_inj : ∀ (xs : List Nat) (ys : List UInt8), (∀ x ∈ xs, x < 256) → (xs.map (fun n => UInt8.ofNat n) = ys ↔ xs = ys.map UInt8.toNat)
  | [], [], _ => by simp
  | [], y :: ys, _ => by simp
  | x :: xs, [], _ => by simp
  | x :: xs, y :: ys, h => by
    have ih := map_inj xs ys (fun a ha => h a (List.mem_cons_of_mem _ ha))
    have hx := h x List.mem_cons_self
    simp only [List.map_cons, List.cons.injEq, ih]
    refine and_congr ?_ Iff.rfl
    constructor
    · rintro rfl
      rw [UInt8.toNat_ofNat']; omega
    · rintro rfl
      simp
/-- The first n bytes, as numbers. -/
def firstN (s : ByteArray) (n : Nat) : List Nat := (List.range n).map (byteAt s)
theorem extract_take (s : ByteArray) (n : Nat) : (s.extract 0 n).data.toList = s.data.toList.take n := by apply List.ext_getElem?; intro i; simp [List.getElem?_take]
theorem first_toList (s : ByteArray) (n : Nat) (h : n ≤ s.size) : (s.extract 0 n).toList.map UInt8.toNat = firstN s n := by
  rw [Lib.toList_data, extract_take]
  apply List.ext_getElem?
  intro i
  unfold firstN
  by_cases hi : i < n
  · have hs : i < s.size := by omega
    rw [List.getElem?_map, List.getElem?_map, List.getElem?_range hi, List.getElem?_take_of_lt hi, Lib.data_getElem? s i hs, Option.map_some, Option.map_some, byteAt_of hs]
  · rw [List.getElem?_eq_none (by simp; omega), List.getElem?_eq_none (by simp; omega)]
theorem spell_eq (s : ByteArray) (v n : Nat) (hv : v ≤ 1114111) (h : n ≤ s.size) : (strOfNums ((spellN v).map (fun n : Nat => (n : Int)))).toList = (s.extract 0 n).toList ↔ spellN v = firstN s n := by
  rw [← first_toList s n h, ← map_inj _ _ (spellN_lt v hv), Lib.toList_data, strOfNums_data, List.map_map]
  rfl

/-- What the reference reckons of the first n bytes. -/
def valR (s : ByteArray) (n : Nat) : Nat := if n = 1 then byteAt s 0 else valW s (firstV (byteAt s 0) n) (n - 1)
def takes (s : ByteArray) (n : Nat) : Prop := valR s n ≤ 1114111 ∧ (valR s n < 55296 ∨ 57343 < valR s n) ∧ spellN (valR s n) = firstN s n
theorem takes_1 (s : ByteArray) : takes s 1 ↔ byteAt s 0 < 128 := by
  have h := byteAt_lt s 0
  unfold takes valR
  simp only [if_true]
  unfold spellN firstN
  by_cases h1 : byteAt s 0 < 128
  · rw [if_pos h1]
    simp [List.range_succ]
    omega
  · rw [if_neg h1]
    by_cases h2 : byteAt s 0 < 2048
    · rw [if_pos h2]
      simp [List.range_succ]
      omega
    · omega
theorem takes_2 (s : ByteArray) : takes s 2 ↔ byteAt s 0 / 32 = 6 ∧ byteAt s 1 / 64 = 2 ∧ ¬ badV 2 (valR s 2) := by
  have h0 := byteAt_lt s 0
  have h1 := byteAt_lt s 1
  have e : valR s 2 = byteAt s 0 % 32 * 64 + byteAt s 1 % 64 := rfl
  unfold takes badV
  rw [e]
  have el : leastV 2 = 128 := rfl
  have ef : firstN s 2 = [byteAt s 0, byteAt s 1] := rfl
  rw [el, ef]
  generalize byteAt s 0 = a at *
  generalize byteAt s 1 = b at *
  unfold spellN
  by_cases c1 : a % 32 * 64 + b % 64 < 128
  · rw [if_pos c1]
    simp
    omega
  · rw [if_neg c1, if_pos (by omega)]
    simp only [List.cons.injEq, and_true]
    omega
theorem takes_3 (s : ByteArray) : takes s 3 ↔ byteAt s 0 / 16 = 14 ∧ byteAt s 1 / 64 = 2 ∧ byteAt s 2 / 64 = 2 ∧ ¬ badV 3 (valR s 3) := by
  have h0 := byteAt_lt s 0
  have h1 := byteAt_lt s 1
  have h2 := byteAt_lt s 2
  have e : valR s 3 = (byteAt s 0 % 16 * 64 + byteAt s 1 % 64) * 64 + byteAt s 2 % 64 := rfl
  unfold takes badV
  rw [e]
  have el : leastV 3 = 2048 := rfl
  have ef : firstN s 3 = [byteAt s 0, byteAt s 1, byteAt s 2] := rfl
  rw [el, ef]
  generalize byteAt s 0 = a at *
  generalize byteAt s 1 = b at *
  generalize byteAt s 2 = c at *
  generalize hv : (a % 16 * 64 + b % 64) * 64 + c % 64 = v
  unfold spellN
  by_cases c1 : v < 128
  · rw [if_pos c1]
    simp
    omega
  · rw [if_neg c1]
    by_cases c2 : v < 2048
    · rw [if_pos c2]
      simp
      omega
    · rw [if_neg c2, if_pos (by omega)]
      simp only [List.cons.injEq, and_true]
      omega
theorem takes_4 (s : ByteArray) : takes s 4 ↔ byteAt s 0 / 8 = 30 ∧ byteAt s 1 / 64 = 2 ∧ byteAt s 2 / 64 = 2 ∧ byteAt s 3 / 64 = 2 ∧ ¬ badV 4 (valR s 4) := by
  have h0 := byteAt_lt s 0
  have h1 := byteAt_lt s 1
  have h2 := byteAt_lt s 2
  have h3 := byteAt_lt s 3
  have e : valR s 4 = ((byteAt s 0 % 8 * 64 + byteAt s 1 % 64) * 64 + byteAt s 2 % 64) * 64 + byteAt s 3 % 64 := rfl
  unfold takes badV
  rw [e]
  have el : leastV 4 = 65536 := rfl
  have ef : firstN s 4 = [byteAt s 0, byteAt s 1, byteAt s 2, byteAt s 3] := rfl
  rw [el, ef]
  generalize byteAt s 0 = a at *
  generalize byteAt s 1 = b at *
  generalize byteAt s 2 = c at *
  generalize byteAt s 3 = d at *
  generalize hv : ((a % 8 * 64 + b % 64) * 64 + c % 64) * 64 + d % 64 = v
  unfold spellN
  by_cases c1 : v < 128
  · rw [if_pos c1]
    simp
    omega
  · rw [if_neg c1]
    by_cases c2 : v < 2048
    · rw [if_pos c2]
      simp
      omega
    · rw [if_neg c2]
      by_cases c3 : v < 65536
      · rw [if_pos c3]
        simp
        omega
      · rw [if_neg c3]
        simp only [List.cons.injEq, and_true]
        omega
end Go.Proofs.YtjlohmhmnghjkaaDoor
