/- made and prop.List.Get: what they compute. -/
import Derived.Test.YtjlohmhmnghjkaaQ2
namespace Go.Proofs.Ytjlohmhmnghjkaa
open Go.RowKit Go.Proofs.YtjlohmhmnghjkaaW.PrintWords Go.Proofs.Ytjlohmhmnghjkaa.PAliasPlays
set_option linter.unusedVariables false

def aliasP (n : Int) : S61 := ⟨35, n, ⟨#[]⟩, ⟨#[]⟩⟩
/-- The properties that made gives. -/
def propsOf (L : List Int) : List S61 := (L.take 2).map aliasP
def cutS (T : ByteArray) (n : Nat) : ByteArray := if n < T.size then T.extract 0 n else T
theorem cutS_size (T : ByteArray) (n : Nat) : (cutS T n).size ≤ n := by
  unfold cutS
  split
  · rw [ByteArray.size_extract]; omega
  · omega
theorem cutS_short {T : ByteArray} {n : Nat} (h : T.size ≤ n) : cutS T n = T := if_neg (by omega)
theorem cut_f (T : ByteArray) (n : Nat) : switchboardlaw01_Cut.f T n = some (cutS T n) := by
  unfold switchboardlaw01_Cut.f cutS
  by_cases h : n < T.size
  · rw [if_pos h, if_pos (by omega), if_pos (by omega), if_pos (by omega)]
    rfl
  · rw [if_neg h, if_neg (by omega)]
theorem made_f (T : ByteArray) (L : List Int) (k : Nat) (hk : 4 ≤ k) : switchboardlaw17_made.f k T L = some (false, false, 0, 0, propsOf L, cutS T 30, ⟨#[]⟩) := by
  obtain ⟨k, rfl⟩ : ∃ j, k = j + 4 := ⟨k - 4, by omega⟩
  unfold switchboardlaw17_made.f
  rw [show (30 : Int) = ((30 : Nat) : Int) from rfl, cut_f]
  simp only [Option.bind_some]
  match L with
  | [] => simp [switchboardlaw17_made.l0, propsOf]
  | [a] => simp [switchboardlaw17_made.l0, propsOf, aliasP, wrap64, rd]
  | a :: b :: L =>
    have h0 : (0 : Int) < ((a :: b :: L).length : Int) := by simp only [List.length_cons]; omega
    have h1 : (1 : Int) < ((a :: b :: L).length : Int) := by simp only [List.length_cons]; omega
    have w1 : wrap64 (0 + 1) = 1 := by unfold wrap64; omega
    have w2 : wrap64 (1 + 1) = 2 := by unfold wrap64; omega
    rw [switchboardlaw17_made.l0, if_pos h0, if_pos (by decide), if_pos (by decide), if_pos (by decide), w1,
      switchboardlaw17_made.l0, if_pos h1, if_pos (by decide), if_pos (by decide), if_pos (by simp), w2, switchboardlaw17_made.l0]
    by_cases h2 : (2 : Int) < ((a :: b :: L).length : Int)
    · rw [if_pos h2, if_neg (by decide)]; rfl
    · rw [if_neg h2]; rfl
/-- The alias that a list tells: the first. -/
def oOf (L : List Int) : Option Nat := L.head?.map Int.toNat
theorem get_f (L : List Int) (k : Nat) (hk : 2 ≤ k) (h0 : ∀ x ∈ L, 0 ≤ x) : ∃ r1, prop_List_Get.f k (propsOf L) 35 = some (r1, (((oOf L).getD 0 : Nat) : Int), (⟨#[]⟩ : ByteArray), (⟨#[]⟩ : ByteArray), (oOf L).isSome) := by
  obtain ⟨k, rfl⟩ : ∃ j, k = j + 2 := ⟨k - 2, by omega⟩
  unfold prop_List_Get.f
  match L with
  | [] => exact ⟨0, by simp [prop_List_Get.l0, propsOf, oOf]⟩
  | a :: L =>
    have ha := h0 a (by simp)
    refine ⟨35, ?_⟩
    have e1 : propsOf (a :: L) = aliasP a :: (L.take 1).map aliasP := rfl
    have e2 : rd_T61 (propsOf (a :: L)) 0 = aliasP a := by rw [e1]; rfl
    have e3 : ((oOf (a :: L)).getD 0 : Nat) = a.toNat := rfl
    have e4 : (oOf (a :: L)).isSome = true := rfl
    have hl : (0 : Int) < ((propsOf (a :: L)).length : Int) := by rw [e1, List.length_cons]; omega
    rw [prop_List_Get.l0, if_pos hl, if_pos (by decide), if_pos hl, e2, if_pos (by rfl), e3, e4, Int.toNat_of_nonneg ha]
    rfl
end Go.Proofs.Ytjlohmhmnghjkaa
