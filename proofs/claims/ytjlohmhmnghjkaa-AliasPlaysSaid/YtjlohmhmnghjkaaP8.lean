/- AliasPlays: publishes that came in; the state of both. -/
import Derived.Test.YtjlohmhmnghjkaaP7
import Derived.Test.YtjlohmhmnghjkaaQ6
import Derived.Deep.Slices
import Derived.SizedLaws
import Derived.ChangeSame
namespace Go.Proofs.Ytjlohmhmnghjkaa
open Go.RowKit Go.Maps Go.Proofs.YtjlohmhmnghjkaaW.PrintWords Go.Proofs.Ytjlohmhmnghjkaa.PAliasPlays
set_option linter.unusedVariables false

/-- A publish that came in. -/
structure SOne where
  topic : ByteArray
  l : List Int
def oneOk (a : SOne) : Prop := a.topic.size ≤ maxLen ∧ ∀ x ∈ a.l, 0 ≤ x ∧ x < 4294967296
def kO : Kd SOne where
  sz := 2
  E := []
  K := fun w x cs => ∃ A c, cs = [.string x.topic, .slice A x.l.length c] ∧ Kd.C (Kd.int .u32) w A x.l.length x.l ∧ x.l.length ≤ c
  M := fun _ _ _ _ _ => False
  K_len := by rintro w x cs ⟨A, c, rfl, _⟩; rfl
  K_one := by
    rintro w x cs ⟨A, c, rfl, _⟩ u hu
    simp only [List.mem_cons, List.not_mem_nil, or_false] at hu
    rcases hu with rfl | rfl <;> rfl
  K_below := by rintro w w1 x cs hb ⟨A, c, rfl, h1, h2⟩; exact ⟨A, c, rfl, Kd.C_below h1 hb, h2⟩
  K_of_M := fun h => h.elim
  M_mono := fun _ h => h
  M_bound := fun h => h
  M_move := fun _ h => h
  M_lower := fun _ h => h
theorem one_at {w : World} {A : Option Addr} {n : Nat} {xs : List SOne} (h : Kd.C kO w A n xs) (i : Nat) (hi : i < n) : ∃ (ad : Addr) (a : SOne) (B : Option Addr) (c : Nat), A = some ad ∧ xs[i]? = some a ∧ w.cell? (ad.add (i * 2)) = some (.string a.topic) ∧
    w.cell? ⟨(ad.add (i * 2)).block, (ad.add (i * 2)).off + 1, none⟩ = some (.slice B a.l.length c) ∧ Kd.C (Kd.int .u32) w B a.l.length a.l ∧ a.l.length ≤ c := by
  obtain ⟨hl, _, hC⟩ := h
  obtain ⟨ad, rfl, hc⟩ := hC (by omega)
  obtain ⟨cs, _, ⟨B, c, rfl, h1, h2⟩, h3⟩ := hc i _ (List.getElem?_eq_getElem (by omega))
  exact ⟨ad, _, B, c, rfl, List.getElem?_eq_getElem (by omega), h3 0 _ rfl, by rw [← add_field _ _ 1 (by omega)]; exact h3 1 _ rfl, h1, h2⟩

theorem told_f (L : List Int) (k : Nat) (hk : 3 ≤ k) : switchboardlaw03_Told.f k (propsOf L) = some (toldOf L) := by
  obtain ⟨k, rfl⟩ : ∃ j, k = j + 3 := ⟨k - 3, by omega⟩
  have w1 : wrap64 (0 + 1) = 1 := by unfold wrap64; omega
  have w2 : wrap64 (1 + 1) = 2 := by unfold wrap64; omega
  unfold switchboardlaw03_Told.f
  match L with
  | [] => simp [switchboardlaw03_Told.l0, propsOf, toldOf]
  | [a] =>
    have el : ((propsOf [a]).length : Int) = 1 := rfl
    rw [el, switchboardlaw03_Told.l0, if_pos (by decide), if_pos (by decide), if_pos (by rw [el]; decide), if_pos (by decide), w1, switchboardlaw03_Told.l0, if_neg (by decide)]
    rfl
  | a :: b :: L =>
    have el : ((propsOf (a :: b :: L)).length : Int) = 2 := rfl
    rw [el, switchboardlaw03_Told.l0, if_pos (by decide), if_pos (by decide), if_pos (by rw [el]; decide), if_pos (by decide), w1,
      switchboardlaw03_Told.l0, if_pos (by decide), if_pos (by decide), if_pos (by rw [el]; decide), if_pos (by simp), w2, switchboardlaw03_Told.l0, if_neg (by decide)]
    rfl
/-- Get of what isn't there. -/
theorem getL_none (n : Int) : ∀ (l : List S52) (r : ByteArray × Bool), (r.2 = false → r.1 = ⟨#[]⟩) → (getL n r l).2 = false → (getL n r l).1 = ⟨#[]⟩
  | [], r, h, h2 => h h2
  | x :: l, r, h, h2 => by
    unfold getL at h2 ⊢
    refine getL_none n l _ ?_ h2
    by_cases hx : x.f0 = n
    · rw [if_pos hx]; intro h; cases h
    · rw [if_neg hx]; exact h
theorem getX_eq (x : List S52) (N : Nat) : getX x (N : Int) = ((gF x N).getD ⟨#[]⟩, (gF x N).isSome) := by
  unfold gF
  by_cases h : (getX x (N : Int)).2 = true
  · rw [if_pos h]
    exact Prod.ext rfl h
  · rw [if_neg h]
    have h2 : (getX x (N : Int)).2 = false := by simpa using h
    exact Prod.ext (getL_none _ x _ (fun _ => rfl) h2) h2

/-- What the reference holds. -/
structure XOk (x : List S52) (m i : Nat) : Prop where
  zero : gF x 0 = none
  num : ∀ y ∈ x, ∃ N : Nat, y.f0 = N ∧ N < 4294967296
  le : m ≤ x.length
  len : x.length ≤ i
theorem XOk.nil : XOk [] 0 0 := ⟨rfl, by simp, Nat.le_refl _, Nat.le_refl _⟩
theorem stS_in {most : Nat} {o : Option Nat} {topic : ByteArray} {b : Bool} {N : Nat} (h : stS most o topic b = some N) : N ≠ 0 ∧ N ≤ most := by
  unfold stS at h
  cases o with
  | none => cases h
  | some M =>
    simp only at h
    by_cases h1 : M = 0 ∨ most < M
    · rw [if_pos h1] at h; cases h
    · rw [if_neg h1] at h
      by_cases h2 : topic.size = 0
      · rw [if_pos h2] at h; cases h
      · rw [if_neg h2] at h
        cases b with
        | false => cases h
        | true =>
          obtain rfl : M = N := by simpa using h
          omega
theorem XOk.next {x : List S52} {m i : Nat} (h : XOk x m i) {most : Nat} (hmost : most ≤ 65535) (o : Option Nat) (topic : ByteArray) (b : Bool) : XOk (nextX x (stS most o topic b) topic) (stM (gF x) m (stS most o topic b)) (i + 1) := by
  cases hs : stS most o topic b with
  | none => exact ⟨h.zero, h.num, h.le, by have := h.len; show x.length ≤ _; omega⟩
  | some N =>
    have hN := stS_in hs
    refine ⟨?_, ?_, ?_, ?_⟩
    · have := gF_next x (some N) topic
      rw [this]
      show setF (gF x) N topic 0 = none
      unfold setF
      rw [if_neg (by omega)]
      exact h.zero
    · intro y hy
      rcases List.mem_append.1 hy with hy | hy
      · exact h.num y hy
      · obtain rfl := List.mem_singleton.1 hy
        exact ⟨N, rfl, by omega⟩
    · have := h.le
      show (if (gF x N).isSome then m else m + 1) ≤ (x ++ [_]).length
      rw [List.length_append]
      simp only [List.length_singleton]
      split <;> omega
    · have := h.len
      show (x ++ [_]).length ≤ i + 1
      rw [List.length_append]
      simp only [List.length_singleton]
      omega

/-- Both: the table, and the reference's list in v. -/
structure AP (w0 W : World) (g bm most n m : Nat) (F : Nat → Option ByteArray) (x : List S52) (v : Value) : Prop where
  ts : TS w0 W g bm most n m F
  row : Kd.R k52 52 W w0.heap.size (fun k => k ≠ g ∧ k ≠ bm) v x
section
variable {w0 W W1 : World} {g bm most n m : Nat} {F : Nat → Option ByteArray} {x : List S52} {v : Value}
theorem AP.to (h : AP w0 W g bm most n m F x v) (hb : Below W.heap.size W W1) : AP w0 W1 g bm most n m F x v := ⟨h.ts.to hb, Kd.R_below h.row hb⟩
theorem AP.name (h : AP w0 W g bm most n m F x v) {n' m' : Nat} {F' : Nat → Option ByteArray} (hs : TS w0 W1 g bm most n' m' F') (hk : TKept W W1 w0.heap.size bm) : AP w0 W1 g bm most n' m' F' x v :=
  ⟨hs, Kd.R_step h.row fun k hok hlt => hk.old k hlt hok.2⟩
/-- Behind the reference's Name: its list, and the table as it was. -/
theorem AP.ref (h : AP w0 W g bm most n m F x v) {S : Nat → Prop} {x' : List S52} {v' : Value} (hb : Below w0.heap.size w0 W1) (hk : Kept W W1 S) (hS : ∀ k, S k → k ≠ g ∧ k ≠ bm)
    (hr : Kd.R k52 52 W1 w0.heap.size (fun k => S k ∨ W.heap.size ≤ k) v' x') : AP w0 W1 g bm most n m F x' v' :=
  ⟨h.ts.kept hb hk (fun hs => (hS g hs).1 rfl) (fun hs => (hS bm hs).2 rfl), Kd.R_mono hr fun k hk => hk.elim (hS k) fun hk => by have := h.ts.pt.lt; omega⟩
end
end Go.Proofs.Ytjlohmhmnghjkaa
