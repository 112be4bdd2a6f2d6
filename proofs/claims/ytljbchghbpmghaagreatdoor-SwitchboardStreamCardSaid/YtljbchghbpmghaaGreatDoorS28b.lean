/- Cut. Owned lists of any plain kind: as PO in S4, S5. -/
import Derived.Test.YtljbchghbpmghaaGreatDoorS27
namespace Go.Proofs.YtljbchghbpmghaaGreatDoor
open Go.RowKit Go.Lib Go.Proofs.YtljbchghbpmghaaGreatDoorW.PrintWords Go.Proofs.YtljbchghbpmghaaGreatDoor.PSwitchboardGreat
set_option linter.unusedVariables false
set_option linter.unusedSimpArgs false
def CutP (n : Nat) (w : World) (e : Ending) (w' : World) : Prop := ∃ t : ByteArray, e = .returned (.string t) ∧ t.size ≤ n ∧ Below w.heap.size w w'
set_option maxHeartbeats 1000000 in
set_option maxRecDepth 1000000 in
theorem cut_calls (s : ByteArray) (n : Nat) (w : World) : Calls Tryz.prog 5 #[.string s, .int .i64 (n : Nat)] w (CutP n w) := by
  go_enter Tryz.func5, Tryz.ntmps5
  by_cases h : n < s.size
  · have hh : (n : Int) < (s.size : Int) := by omega
    go_wp2
    go_ret
    exact ⟨s.extract 0 n, rfl, by rw [ByteArray.size_extract]; omega, Below.refl _ _⟩
  · have hh : ¬ (n : Int) < (s.size : Int) := by omega
    go_wp2
    go_ret
    exact ⟨s, rfl, by omega, Below.refl _ _⟩
section
variable {α : Type} {d : Kd α} {q0 : Nat} {w w' : World} {B : Nat} {ok ok' S : Nat → Prop} {v : Value} {l : List α}
theorem ro_row (hE : d.E = []) (h : d.R q0 w B ok v l) : ∀ k, v.ownBlock = some k → ∃ cs, w.heap[k]? = some (.cells cs q0 (0, 0)) := by
  intro k hk
  obtain ⟨q, hq, cells, hcl⟩ := ((Kd.R_bound h).1 k hk).2.2.2
  have hq2 : q = q0 := by
    have : q ∈ q0 :: d.E := hq
    rw [hE] at this
    simpa using this
  exact ⟨cells, hq2 ▸ hcl⟩
theorem ro_lim (h : d.R q0 w B ok v l) : d.R q0 w B (fun k => ok k ∧ k < w.heap.size) v l := Kd.R_mono (Kd.R_bound h) (fun k hk => ⟨hk.1, hk.2.2.1⟩)
theorem ro_to (hE : d.E = []) (h : d.R q0 w B ok v l) (hc : Chg S w w') (hS : ∀ k, S k → ¬ ok k ∨ ∃ cs t, w.heap[k]? = some (.cells cs t (0, 0)) ∧ t ≠ q0) : d.R q0 w' B ok v l := by
  refine Kd.R_mono (Kd.R_step (Kd.R_bound h) (fun k hk hlt => hc.block k hlt (fun hs => ?_))) (fun k hk => hk.1)
  rcases hS k hs with h1 | ⟨cs, t, h1, h2⟩
  · exact h1 hk.1
  · obtain ⟨q, hq, cells, hcl⟩ := hk.2.2.2
    have hq2 : q = q0 := by
      have : q ∈ q0 :: d.E := hq
      rw [hE] at this
      simpa using this
    subst hq2
    rw [h1] at hcl
    injection hcl with hcl
    injection hcl with _ hcl _
    exact h2 hcl
theorem ro_form (h : d.R q0 w B ok v l) : ∃ A c, v = .slice A l.length c ∧ l.length ≤ c ∧ d.C w A l.length l := by
  obtain ⟨A, c, h1, h2, h3⟩ := Kd.R_reads h
  exact ⟨A, c, h1, h2, h3⟩
theorem ro_ge (h : d.R q0 w B ok v l) : ∀ k, v.ownBlock = some k → B ≤ k := fun k hk => ((Kd.R_bound h).1 k hk).2.1
/-- A block of another type stays where the list's row grows. -/
theorem ro_grown (hE : d.E = []) (h : d.R q0 w B ok v l) (hg : w.grownBy w' v.ownBlock) {b : Nat} {cs : Array Value} {t : TypeId} (hb : w.heap[b]? = some (.cells cs t (0, 0))) (ht : t ≠ q0) : w'.heap[b]? = some (.cells cs t (0, 0)) := by
  refine (Chg.of_grown (S := fun k => v.ownBlock = some k) hg (fun k hk => hk)).blk hb (fun hk => ?_)
  obtain ⟨cs2, hc⟩ := ro_row hE h b hk
  rw [hb] at hc
  injection hc with hc
  injection hc with _ hc _
  exact ht hc
end
theorem k155_E : k155.E = [] := rfl
theorem str_E : Kd.string.E = [] := rfl
end Go.Proofs.YtljbchghbpmghaaGreatDoor
