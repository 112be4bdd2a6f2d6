/- alias.Table: one more stands for a topic. -/
import Derived.Test.YtjlohmhmnghjkaaN2
namespace Go.Proofs.Ytjlohmhmnghjkaa
open Go.RowKit Go.Maps Go.Proofs.YtjlohmhmnghjkaaW.PrintWords Go.Proofs.Ytjlohmhmnghjkaa.PAliasPlays
set_option linter.unusedVariables false
set_option linter.unusedSimpArgs false

def setF (F : Nat → Option ByteArray) (N : Nat) (s : ByteArray) : Nat → Option ByteArray := fun k => if k = N then some s else F k
section
variable {W : World} {base g bm most n m : Nat} {F : Nat → Option ByteArray}
theorem PT.store (h : PT W base g bm most n m F) (N : Nat) (s : ByteArray) : ∃ D : DataW Unit, W.ownsMap Try.prog 22 (plainElem Try.prog 9) bm n D ∧
    ∀ w1, w1.ownsMap Try.prog 22 (plainElem Try.prog 9) bm (n + 1) (D.put (.int .u32 N) (.lit (.string s.data.toList))) → W.grownBy w1 (some bm) → PT w1 base g bm most (n + 1) (if (F N).isSome then m else m + 1) (setF F N s) := by
  obtain ⟨D, hm, hs, hh, hF⟩ := h.mp
  refine ⟨D, hm, fun w1 h1 hgr => ⟨(hgr.block g h.lt.1 (fun e => h.ne (by injection e))).trans h.blk, h.bg, h.bb, _, h1, ?_, fun k => ?_, fun k t hk => ?_⟩⟩
  · rw [size_put (hm.tidy law22), hh N, hs]
  · unfold setF
    by_cases e : k = N
    · subst e
      rw [if_pos rfl, has_put_same hm.isMap (by trivial)]
      rfl
    · rw [if_neg e, has_put_other (fun e' => e (by injection e' with _ e2; omega)), hh k]
  · unfold setF at hk
    by_cases e : k = N
    · subst e
      rw [if_pos rfl] at hk
      cases hk
      exact atKey_put_same hm.isMap (by trivial) _ _
    · rw [if_neg e] at hk
      rw [atKey_put_other (fun e' => e (by injection e' with _ e2; omega))]
      exact hF k t hk
end
end Go.Proofs.Ytjlohmhmnghjkaa
