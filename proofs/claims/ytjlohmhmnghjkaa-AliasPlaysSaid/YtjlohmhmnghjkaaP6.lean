/- The reference's Get, Name, and what the reference is told: what they compute. -/
import Derived.Test.YtjlohmhmnghjkaaOA
import Derived.Test.YtjlohmhmnghjkaaQ5
namespace Go.Proofs.Ytjlohmhmnghjkaa
open Go.RowKit Go.Maps Go.Proofs.YtjlohmhmnghjkaaW.PrintWords Go.Proofs.Ytjlohmhmnghjkaa.PAliasPlays
set_option linter.unusedVariables false

/-- What a number stands for: the last of its pairs. -/
def getL (n : Int) : ByteArray × Bool → List S52 → ByteArray × Bool
  | r, [] => r
  | r, x :: l => getL n (if x.f0 = n then (x.f1, true) else r) l
def getX (x : List S52) (n : Int) : ByteArray × Bool := getL n (⟨#[]⟩, false) x
theorem getL_append (n : Int) (y : S52) : ∀ (r : ByteArray × Bool) (l : List S52), getL n r (l ++ [y]) = if y.f0 = n then (y.f1, true) else getL n r l
  | r, [] => rfl
  | r, x :: l => getL_append n y _ l
theorem getX_append (x : List S52) (y : S52) (n : Int) : getX (x ++ [y]) n = if y.f0 = n then (y.f1, true) else getX x n := getL_append n y _ x
theorem get17_l0 (l : List S52) (n : Int) (hl : l.length < 4611686018427387904) : ∀ (r i k : Nat) (s : ByteArray) (b : Bool), i + r = l.length → r + 1 ≤ k →
    switchboardref17_Get.l0 k n s b l (l.length : Int) (i : Int) = some (getL n (s, b) (l.drop i))
  | 0, i, k, s, b, hi, hk => by
    obtain ⟨k, rfl⟩ : ∃ j, k = j + 1 := ⟨k - 1, by omega⟩
    simp only [switchboardref17_Get.l0]
    rw [if_neg (by omega), List.drop_eq_nil_of_le (by omega)]
    rfl
  | r + 1, i, k, s, b, hi, hk => by
    obtain ⟨k, rfl⟩ : ∃ j, k = j + 1 := ⟨k - 1, by omega⟩
    have hlt : i < l.length := by omega
    have e1 : wrap64 ((i : Int) + 1) = ((i + 1 : Nat) : Int) := by rw [w64 (by omega) (by omega)]; push_cast; rfl
    have e2 : rd_T52 l (i : Int) = l[i] := by
      unfold rd_T52
      rw [Int.toNat_natCast, List.getD_eq_getElem?_getD, List.getElem?_eq_getElem hlt]
      rfl
    simp only [switchboardref17_Get.l0, e1, e2]
    rw [if_pos (by omega), if_pos (by omega), if_pos (by omega), List.drop_eq_getElem_cons hlt]
    unfold getL
    by_cases h : l[i].f0 = n
    · rw [if_pos h, if_pos h]
      exact get17_l0 l n hl r (i + 1) k _ _ (by omega) (by omega)
    · rw [if_neg h, if_neg h]
      exact get17_l0 l n hl r (i + 1) k _ _ (by omega) (by omega)
theorem get17_f (l : List S52) (n : Int) (k : Nat) (hl : l.length < 4611686018427387904) (hk : l.length + 1 ≤ k) : switchboardref17_Get.f k l n = some (getX l n) := by
  have := get17_l0 l n hl l.length 0 k ⟨#[]⟩ false (by omega) hk
  rw [List.drop_zero] at this
  exact this
/-- The list as a table. -/
def gF (x : List S52) : Nat → Option ByteArray := fun N => if (getX x (N : Int)).2 = true then some (getX x (N : Int)).1 else none
def toldP (n : Int) : S65 := ⟨35, n, ⟨#[]⟩, ⟨#[]⟩⟩
def toldOf (L : List Int) : List S65 := (L.take 2).map toldP
def nextX (x : List S52) (s : Option Nat) (topic : ByteArray) : List S52 :=
  match s with
  | some N => x ++ [⟨(N : Int), topic⟩]
  | none => x
theorem gF_next (x : List S52) (s : Option Nat) (topic : ByteArray) : gF (nextX x s topic) = stF (gF x) s topic := by
  cases s with
  | none => rfl
  | some N =>
    funext k
    simp only [nextX, stF, gF, setF, getX_append]
    by_cases h : k = N
    · subst h
      simp
    · have h2 : ¬ (N : Int) = (k : Int) := by omega
      simp [h, h2]
theorem word_ge {s : ByteArray} {b : Bool} (h : switchboardref10_Name.f 200 s = some b) (k : Nat) (hk : 200 ≤ k) : switchboardref10_Name.f k s = some b := by
  obtain ⟨d, rfl⟩ : ∃ d, k = 200 + d := ⟨k - 200, by omega⟩
  clear hk
  induction d with
  | zero => exact h
  | succ d ih => exact switchboardref10_Name.mono s (200 + d) b ih
theorem toList_nil {s : ByteArray} (h : s.size = 0) : s.toList = ([] : List UInt8) := List.isEmpty_iff.1 (isEmpty_nil s h)
theorem toList_ne {s : ByteArray} (h : ¬ s.size = 0) : ¬ s.toList = ([] : List UInt8) := fun e => by
  have := isEmpty_of s (by omega)
  rw [e] at this
  exact absurd this (by decide)
/-- Behind the properties. -/
theorem name17_j (x : List S52) (topic : ByteArray) (o : Option Nat) (most : Nat) (b : Bool) (hx : x.length < 1000000) (hb : topic.size = 0 ∨ switchboardref10_Name.f 200 topic = some b) (k : Nat) (hk : x.length + 201 ≤ k)  (hbad : Bool) (hbd : hbad = true ↔ badO most o) :
    switchboardref17_Name.j1 (k + 1) x topic ((o.getD 0 : Nat) : Int) o.isSome hbad = some (nextX x (stS most o topic b) topic, (stR most (gF x) o topic b).1, (stR most (gF x) o topic b).2) := by
  simp only [switchboardref17_Name.j1]
  cases hbad with
  | true =>
    obtain ⟨N, rfl, h⟩ := hbd.1 rfl
    rw [if_pos rfl]
    simp only [stS, stR, if_pos h]
    rfl
  | false =>
    rw [if_neg (by decide)]
    have hnb : ¬ badO most o := fun h => by have := hbd.2 h; cases this
    by_cases ht : topic.size = 0
    · rw [if_pos (toList_nil ht), get17_f x _ k (by omega) (by omega)]
      simp only [Option.bind_some]
      cases o with
      | none =>
        rw [if_neg (by decide)]
        simp only [stS, stR, if_pos ht]
        rfl
      | some N =>
        have h : ¬ (N = 0 ∨ most < N) := fun h => hnb ⟨N, rfl, h⟩
        rw [if_pos (show (some N).isSome = true from rfl)]
        simp only [stS, stR, if_neg h, if_pos ht, Option.getD_some]
        by_cases hg : (getX x (N : Int)).2 = true
        · have hG : gF x N = some (getX x (N : Int)).1 := if_pos hg
          rw [if_pos hg, hG]; rfl
        · have hG : gF x N = none := if_neg hg
          rw [if_neg hg, hG]; rfl
    · rw [if_neg (toList_ne ht), word_ge (hb.resolve_left ht) k (by omega)]
      simp only [Option.bind_some]
      cases b with
      | false =>
        rw [if_neg (by decide)]
        cases o with
        | none => simp only [stS, stR, if_neg ht]; rfl
        | some N =>
          have h : ¬ (N = 0 ∨ most < N) := fun h => hnb ⟨N, rfl, h⟩
          simp only [stS, stR, if_neg h, if_neg ht]; rfl
      | true =>
        rw [if_pos rfl]
        cases o with
        | none =>
          rw [if_neg (by decide)]
          simp only [stS, stR, if_neg ht]; rfl
        | some N =>
          have h : ¬ (N = 0 ∨ most < N) := fun h => hnb ⟨N, rfl, h⟩
          rw [if_pos (show (some N).isSome = true from rfl), if_pos (by simp; omega), if_pos (by simp; omega)]
          simp only [stS, stR, if_neg h, if_neg ht]; rfl
theorem name17_f (x : List S52) (topic : ByteArray) (L : List Int) (hL : ∀ n ∈ L, 0 ≤ n ∧ n < 4294967296) (most : Nat) (b : Bool) (hx : x.length < 1000000) (hb : badO most (oOf L) ∨ topic.size = 0 ∨ switchboardref10_Name.f 200 topic = some b) (k : Nat) (hk : x.length + 210 ≤ k) :
    switchboardref17_Name.f k x topic (toldOf L) (most : Int) = some (nextX x (stS most (oOf L) topic b) topic, (stR most (gF x) (oOf L) topic b).1, (stR most (gF x) (oOf L) topic b).2) := by
  obtain ⟨k, rfl⟩ : ∃ j, k = j + 5 := ⟨k - 5, by omega⟩
  have w1 : wrap64 (0 + 1) = 1 := by unfold wrap64; omega
  have w2 : wrap64 (1 + 1) = 2 := by unfold wrap64; omega
  have hend : ∀ (j : Nat) (a : Int), x.length + 201 ≤ j → 0 ≤ a → oOf L = some a.toNat → (if a < 1 then switchboardref17_Name.j1 (j + 1) x topic a true true else switchboardref17_Name.j1 (j + 1) x topic a true (decide (a > (most : Int)))) = some (nextX x (stS most (oOf L) topic b) topic, (stR most (gF x) (oOf L) topic b).1, (stR most (gF x) (oOf L) topic b).2) := by
    intro j a hj ha ho
    have e1 : (((oOf L).getD 0 : Nat) : Int) = a := by rw [ho]; exact Int.toNat_of_nonneg ha
    have e2 : (oOf L).isSome = true := by rw [ho]; rfl
    by_cases h : badO most (oOf L)
    · have hj1 : ∀ bb : Bool, switchboardref17_Name.j1 (j + 1) x topic a true true = some (nextX x (stS most (oOf L) topic b) topic, (stR most (gF x) (oOf L) topic b).1, (stR most (gF x) (oOf L) topic b).2) := fun bb => by
        obtain ⟨N, h1, h2⟩ := h
        simp only [switchboardref17_Name.j1, if_true]
        rw [h1]
        simp only [stS, stR, if_pos h2]
        rfl
      by_cases h1 : a < 1
      · rw [if_pos h1]; exact hj1 true
      · rw [if_neg h1]
        obtain ⟨N, h3, h4⟩ := h
        rw [ho] at h3
        have : N = a.toNat := (Option.some.inj h3).symm
        rw [decide_eq_true (show a > (most : Int) by omega)]
        exact hj1 true
    · have hN : ¬ (a.toNat = 0 ∨ most < a.toNat) := fun h2 => h ⟨_, ho, h2⟩
      rw [if_neg (by omega), decide_eq_false (by omega), ← e1, ← e2]
      exact name17_j x topic (oOf L) most b hx (hb.resolve_left h) j hj false ⟨fun h2 => (by cases h2), fun h2 => absurd h2 h⟩
  unfold switchboardref17_Name.f
  match L, hL, hb, hend with
  | [], hL, hb, hend =>
    have hnb : ¬ badO most (oOf []) := fun ⟨N, h, _⟩ => by cases h
    simp only [switchboardref17_Name.l0, toldOf, List.take_nil, List.map_nil, List.length_nil]
    rw [if_neg (by omega), if_neg (by decide)]
    exact name17_j x topic none most b hx (hb.resolve_left hnb) (k + 3) (by omega) false ⟨fun h => (by cases h), fun h => absurd h hnb⟩
  | [a], hL, hb, hend =>
    have ha := hL a (by simp)
    have el : ((toldOf [a]).length : Int) = 1 := rfl
    rw [el, switchboardref17_Name.l0, if_pos (by decide), if_pos (by decide), if_pos (by rw [el]; decide), if_pos (by rfl), if_neg (by decide), w1, switchboardref17_Name.l0, if_neg (by decide), if_pos rfl]
    exact hend (k + 2) a (by omega) ha.1 rfl
  | a :: c :: L, hL, hb, hend =>
    have ha := hL a (by simp)
    have el : ((toldOf (a :: c :: L)).length : Int) = 2 := rfl
    rw [el, switchboardref17_Name.l0, if_pos (by decide), if_pos (by decide), if_pos (by rw [el]; decide), if_pos (by rfl), if_neg (by decide), w1,
      switchboardref17_Name.l0, if_pos (by decide), if_pos (by decide), if_pos (by rw [el]; decide), if_pos (by rfl), if_pos rfl, w2, switchboardref17_Name.l0, if_neg (by decide), if_pos rfl]
    exact hend (k + 1) a (by omega) ha.1 rfl
end Go.Proofs.Ytjlohmhmnghjkaa
