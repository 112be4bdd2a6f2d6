/- alias.New. -/
import Derived.Test.YtjlohmhmnghjkaaJ
namespace Go.Proofs.Ytjlohmhmnghjkaa
open Go.RowKit Go.Maps Go.Proofs.YtjlohmhmnghjkaaW.PrintWords
set_option linter.unusedVariables false

def TNewPost (w : World) (most : Nat) (e : Ending) (w' : World) : Prop :=
  ∃ g bm, e = .returned (.pointer (some ⟨g, 0, none⟩)) ∧ PT w' w.heap.size g bm (min most 65535) 0 0 (fun _ => none) ∧ Below w.heap.size w w'
theorem tnew_calls (w : World) (most : Nat) : Calls Try.prog 8 #[.int .u32 most] w (TNewPost w most) := by
  have hmm := @run_makeMap Try.prog
  have hfin : TNewPost w most (.returned (.pointer (some ⟨w.heap.size + 1, 0, none⟩))) ((w.alloc (.map #[] 0)).alloc (.cells #[.map (some w.heap.size), .int .u32 ((min most 65535 : Nat) : Int)] 59)) := by
    refine ⟨w.heap.size + 1, w.heap.size, rfl, ⟨?_, by omega, Nat.le_refl _, .map [], ?_, rfl, fun k => rfl, fun k s h => by cases h⟩, ((Below.refl _ _).alloc (Nat.le_refl _) _).alloc (by simp) _⟩
    · have := heap_alloc_new (w.alloc (.map #[] 0)) (.cells #[.map (some w.heap.size), .int .u32 ((min most 65535 : Nat) : Int)] 59)
      rw [World.size_alloc] at this
      exact this
    · exact (World.ownsMap_made w Try.prog 22 _).alloc _
  have hfin' := Lib.hid hfin
  clear hfin
  have hmin : min (most : Int) 65535 = ((min most 65535 : Nat) : Int) := by omega
  go_enter Try.func8, Try.ntmps8
  go_wp2
  go_ret
  exact hfin'.out
end Go.Proofs.Ytjlohmhmnghjkaa
