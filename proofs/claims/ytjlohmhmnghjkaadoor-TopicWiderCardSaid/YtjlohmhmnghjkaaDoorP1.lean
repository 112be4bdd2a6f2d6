/- Words of letters are names of topics. -/
import Derived.Test.YtjlohmhmnghjkaaDoorI
namespace Go.Proofs.YtjlohmhmnghjkaaDoor
open Go.RowKit Go.Proofs.YtjlohmhmnghjkaaDoorW.PrintWords Go.Proofs.YtjlohmhmnghjkaaDoor.PTopicReads
set_option linter.unusedVariables false

theorem goodW_plain : ∀ l : List UInt8, (∀ x ∈ l, 0 < x.toNat ∧ x.toNat < 128) → GoodW ⟨l.toArray⟩ true
  | [], _ => .nil _ rfl
  | x :: l, h => by
    have hx := h x (by simp)
    have hs : 0 < (⟨(x :: l).toArray⟩ : ByteArray).size := by rw [Lib.size_eq]; simp
    have hb : byteAt ⟨(x :: l).toArray⟩ 0 = x.toNat := by
      rw [byteAt_of (k := 0) hs]
      rfl
    have h1 : SignW ⟨(x :: l).toArray⟩ x.toNat 1 := by
      have := SignW.one (s := ⟨(x :: l).toArray⟩) hs (by omega)
      rwa [hb] at this
    refine .step _ x.toNat 1 true hs h1 (by omega) (by omega) ?_
    rw [extract_from]
    exact goodW_plain l fun y hy => h y (by simp [hy])
theorem countByte_le (c : UInt8) (l : List UInt8) : Lib.countByte l c ≤ l.length := List.count_le_length
theorem signsB_plain (l : List UInt8) (h : ∀ x ∈ l, plusHash.contains x = false) : signsB ⟨l.toArray⟩ = false := by
  unfold signsB
  rw [Lib.indexAny_none (fun j b _ hb => h b (by
    have := List.mem_of_getElem? hb
    simpa using this))]
  rfl
theorem nameW_plain (l : List UInt8) (h0 : 0 < l.length) (h1 : l.length < 32) (h : ∀ x ∈ l, 0 < x.toNat ∧ x.toNat < 128 ∧ plusHash.contains x = false) : NameW ⟨l.toArray⟩ true := by
  have hs : (⟨l.toArray⟩ : ByteArray).size = l.length := by rw [Lib.size_eq]
  refine ⟨true, ⟨true, fun _ => goodW_plain l fun x hx => ⟨(h x hx).1, (h x hx).2.1⟩, fun h => by omega, ?_⟩, ?_⟩
  · rw [decide_eq_true (by omega), decide_eq_true (by have := countByte_le 47 l; show Lib.countByte l 47 < 32; omega)]
    rfl
  · rw [signsB_plain l fun x hx => (h x hx).2.2]
    rfl
theorem nameW_slash_hash : NameW ⟨#[97, 47, 35]⟩ false := by
  refine ⟨true, ⟨true, fun _ => goodW_plain [97, 47, 35] (by decide), fun h => absurd h (by decide), by decide⟩, ?_⟩
  have : signsB ⟨#[97, 47, 35]⟩ = true := by decide
  rw [this]
  rfl
theorem word_of {s : ByteArray} {b : Bool} (h : NameW s b) (hs : s.size ≤ 80) : switchboardref10_Name.f 200 s = some b := name_f h (by omega) 200 (by omega)
end Go.Proofs.YtjlohmhmnghjkaaDoor
