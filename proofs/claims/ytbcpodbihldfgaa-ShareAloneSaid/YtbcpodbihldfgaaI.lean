/- ShareAlone, every n, who and picks: the walk. -/
import Derived.Test.YtbcpodbihldfgaaH
namespace Go.Proofs.Ytbcpodbihldfgaa
open Go.RowKit Go.Maps Go.Proofs.YtbcpodbihldfgaaW.PrintWords Go.Proofs.Ytbcpodbihldfgaa.PSharePlays
set_option linter.unusedVariables false

theorem alone_any (n who : Int) (A : Option Addr) (cp : Nat) (zs : List Int) (w : World) (_wn : (Lit.int .i64 n).wf = true) (_ww : (Lit.int .i64 who).wf = true) (hr : ReadsInt w .i64 A zs.length zs) (hc : zs.length ≤ cp) (hy : zs.length * 8 ≤ 140737488351232) (_hw : ∀ x ∈ zs, (Lit.int .i64 x).wf = true) :
    Calls Try.prog 5 #[.int .i64 n, .int .i64 who, .slice A zs.length cp] w fun e w' => e = .returned (.bool true) ∧ Below w.heap.size w w' := by
  clear _wn _ww _hw
  by_cases h : 1 ≤ n ∧ n ≤ 10
  · obtain ⟨h1, h2⟩ := h
    obtain ⟨m, rfl⟩ := Int.eq_ofNat_of_zero_le (show 0 ≤ n by omega)
    exact alone_walk m who (by omega) (by omega) w A cp zs hr hc (by omega)
  · have haw := Lib.hid (awake_calls w)
    have haw2 := Lib.hid (fun W => awake_calls W)
    clear hr
    rcases (show n < 1 ∨ (1 ≤ n ∧ 10 < n) by omega) with h | ⟨h, h'⟩
    all_goals
      go_enter Try.func5, Try.ntmps5
      go_wp2_with (first
        | (go_at_call 9; refine haw.out.mono ?_; rintro e w1 ⟨rfl, hb⟩; have HB := Lib.hid hb; have haw3 := Lib.hid (haw2.out w1); clear hb haw haw2)
        | (go_at_call 9; refine haw3.out.mono ?_; rintro e w2 ⟨rfl, hb⟩; have HB2 := Lib.hid hb; clear hb haw3))
      go_ret
      exact ⟨rfl, HB.out.trans (HB2.out.mono HB.out.size)⟩
end Go.Proofs.Ytbcpodbihldfgaa
