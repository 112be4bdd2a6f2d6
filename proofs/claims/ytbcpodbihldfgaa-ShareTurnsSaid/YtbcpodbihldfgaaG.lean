/- ShareTurns, every n and every number of rounds: the walk. -/
import Derived.Test.YtbcpodbihldfgaaF
namespace Go.Proofs.Ytbcpodbihldfgaa
open Go.RowKit Go.Maps Go.Proofs.YtbcpodbihldfgaaW.PrintWords Go.Proofs.Ytbcpodbihldfgaa.PSharePlays
set_option linter.unusedVariables false

theorem turns_any (n r : Int) (w : World) (_wn : (Lit.int .i64 n).wf = true) (_wr : (Lit.int .i64 r).wf = true) : Calls Try.prog 4 #[.int .i64 n, .int .i64 r] w fun e w' => e = .returned (.bool true) ∧ Below w.heap.size w w' := by
  clear _wn _wr
  by_cases h : 1 ≤ n ∧ n ≤ 20 ∧ 0 ≤ r ∧ r ≤ 20
  · obtain ⟨h1, h2, h3, h4⟩ := h
    obtain ⟨m, rfl⟩ := Int.eq_ofNat_of_zero_le (show 0 ≤ n by omega)
    obtain ⟨k, rfl⟩ := Int.eq_ofNat_of_zero_le h3
    exact turns_walk m k (by omega) (by omega) (by omega) w
  · have haw := Lib.hid (awake_calls w)
    have haw2 := Lib.hid (fun W => awake_calls W)
    rcases (show n < 1 ∨ (1 ≤ n ∧ 20 < n) ∨ (1 ≤ n ∧ n ≤ 20 ∧ r < 0) ∨ (1 ≤ n ∧ n ≤ 20 ∧ 0 ≤ r ∧ 20 < r) by omega) with h | ⟨h, h'⟩ | ⟨h, h', h''⟩ | ⟨h, h', h'', h3⟩
    all_goals
      go_enter Try.func4, Try.ntmps4
      go_wp2_with (first
        | (go_at_call 9; refine haw.out.mono ?_; rintro e w1 ⟨rfl, hb⟩; have HB := Lib.hid hb; have haw3 := Lib.hid (haw2.out w1); clear hb haw haw2)
        | (go_at_call 9; refine haw3.out.mono ?_; rintro e w2 ⟨rfl, hb⟩; have HB2 := Lib.hid hb; clear hb haw3))
      go_ret
      exact ⟨rfl, HB.out.trans (HB2.out.mono HB.out.size)⟩
end Go.Proofs.Ytbcpodbihldfgaa
