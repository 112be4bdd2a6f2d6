/- alias.Table: its state; New, Len, Get. -/
import Derived.Test.YtjlohmhmnghjkaaI
import Derived.Maps.OwnSet
import Derived.Maps.StringElems
import Derived.Maps.Views
namespace Go.Proofs.Ytjlohmhmnghjkaa
open Go.RowKit Go.Maps Go.Proofs.YtjlohmhmnghjkaaW.PrintWords
set_option linter.unusedVariables false

theorem law22 : Keyed Try.prog 22 := int_keyed Try.underlying22
theorem zero9 (w : World) : (zeroValue 9).run Try.prog w = .ok (.string ⟨#[]⟩) w := by kernel_rfl

/-- The table at block g, its map at block bm: at most 'most'; m aliases stand for something: F. -/
structure PT (w : World) (base g bm most n m : Nat) (F : Nat → Option ByteArray) : Prop where
  blk : w.heap[g]? = some (.cells #[.map (some bm), .int .u32 most] 59 (0, 0))
  bg : base ≤ g
  bb : base ≤ bm
  mp : ∃ D : DataW Unit, w.ownsMap Try.prog 22 (plainElem Try.prog 9) bm n D ∧ Maps.size D = m ∧ (∀ k : Nat, Maps.has D (.int .u32 k) = (F k).isSome) ∧ ∀ (k : Nat) s, F k = some s → D.atKey (.int .u32 k) (.lit (.string [])) = .lit (.string s.data.toList)

section
variable {w w1 : World} {base g bm most n m : Nat} {F : Nat → Option ByteArray}
theorem PT.move (h : PT w base g bm most n m F) (h1 : w1.heap[g]? = w.heap[g]?) (h2 : w1.heap[bm]? = w.heap[bm]?) : PT w1 base g bm most n m F := by
  obtain ⟨D, ⟨es, clock, e1, e2⟩, e3⟩ := h.mp
  exact ⟨h1.trans h.blk, h.bg, h.bb, D, ⟨es, clock, h2.trans e1, e2⟩, e3⟩
theorem PT.lt (h : PT w base g bm most n m F) : g < w.heap.size ∧ bm < w.heap.size := by
  obtain ⟨D, e1, _⟩ := h.mp
  exact ⟨(Array.getElem?_eq_some_iff.1 h.blk).1, e1.lt⟩
theorem PT.below (h : PT w base g bm most n m F) (hb : Below w.heap.size w w1) : PT w1 base g bm most n m F :=
  h.move (hb.block g h.lt.1) (hb.block bm h.lt.2)
theorem PT.ne (h : PT w base g bm most n m F) : g ≠ bm := by
  rintro rfl
  obtain ⟨D, ⟨es, clock, e1, _⟩, _⟩ := h.mp
  rw [h.blk] at e1
  cases e1

theorem tlen_calls (h : PT w base g bm most n m F) : Calls Try.prog 13 #[.pointer (some ⟨g, 0, none⟩)] w fun e w' => e = .returned (.int .i64 m) ∧ w = w' := by
  obtain ⟨D, hm, hs, _⟩ := h.mp
  have c0 : w.cell? ⟨g, 0, none⟩ = some (.map (some bm)) := (blk_cell h.blk 0).trans rfl
  have hl := hm.len (t := 57) (e := 9) Try.underlying57
  rw [hs] at hl
  clear h hm hs
  go_enter Try.func13, Try.ntmps13
  go_wp2
  go_ret
  exact ⟨rfl, rfl⟩
theorem wf_u32 {k : Nat} (hk : k < 4294967296) : (Lit.int .u32 (k : Int)).wf = true := by
  simp only [Lit.wf, IntKind.min, IntKind.max, IntKind.signed, IntKind.bits, Bool.and_eq_true]
  constructor
  · simp
  · simp; omega
theorem string_eq_of {a b : ByteArray} (h : a.data.toList = b.data.toList) : a = b := by
  cases a; cases b
  simp only at h
  congr
  exact Array.toList_inj.1 h
theorem look_at (h : PT w base g bm most n m F) (k : Nat) (hk : k < 4294967296) : (Instr.lookup 57 (.map (some bm)) (.int .u32 k) true).run Try.prog w = .ok (.tuple #[.string ((F k).getD ⟨#[]⟩), .bool (F k).isSome]) w := by
  obtain ⟨D, hm, hs, hh, hF⟩ := h.mp
  have hz : plainElem (H := Unit) Try.prog 9 (.string ⟨#[]⟩) = some (.lit (.string []), []) := plainElem_string Try.underlying9 (by unfold maxLen; show 0 ≤ _; omega)
  obtain ⟨v, ps, h1, h2⟩ := hm.look_ok law22 Try.underlying57 (zero9 w) hz (keyOf_int_mk Try.underlying22 (wf_u32 hk))
  rw [hh k] at h1
  obtain ⟨s, rfl, h3, _⟩ := plainElem_string_inv Try.underlying9 h2
  simp only [Prod.mk.injEq] at h3
  have hv : s = (F k).getD ⟨#[]⟩ := by
    rcases hFk : F k with _ | s'
    · have hn : Maps.has D (.int .u32 k) = false := by rw [hh k, hFk]; rfl
      rw [atKey_of_not_has hn] at h3
      have := h3.1
      simp only [DataW.lit.injEq, Lit.string.injEq] at this
      exact string_eq_of this.symm
    · rw [hF k s' hFk] at h3
      have := h3.1
      simp only [DataW.lit.injEq, Lit.string.injEq] at this
      exact string_eq_of this.symm
  rw [← hv]
  exact h1
theorem tget_calls (h : PT w base g bm most n m F) (k : Nat) (hk : k < 4294967296) : Calls Try.prog 16 #[.pointer (some ⟨g, 0, none⟩), .int .u32 k] w fun e w' => e = .returned (.tuple #[.string ((F k).getD ⟨#[]⟩), .bool (F k).isSome]) ∧ w = w' := by
  have c0 : w.cell? ⟨g, 0, none⟩ = some (.map (some bm)) := (blk_cell h.blk 0).trans rfl
  have hl := look_at h k hk
  clear h hk
  go_enter Try.func16, Try.ntmps16
  go_wp2
  go_ret2
  exact ⟨rfl, rfl⟩
end
end Go.Proofs.Ytjlohmhmnghjkaa
