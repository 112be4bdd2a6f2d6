/- ShareGroups, every n and every order: the walk; a row of bools that came in. -/
import Derived.Test.YtbcpodbihldfgaaO
import Derived.Test.YtbcpodbihldfgaaL
namespace Go.Proofs.Ytbcpodbihldfgaa
open Go.RowKit Go.Maps Go.Proofs.YtbcpodbihldfgaaW.PrintWords Go.Proofs.Ytbcpodbihldfgaa.PSharePlays
set_option linter.unusedVariables false

theorem open_flags {H : Type} {enc : TypeId × Value → H} {W : World} {base : Nat} {sp : Nat → Bool} {held : Bool} {A : Option Addr} {len cap : Nat} {dd : DataW H} {ps : List MemPlace} {ts : List TypeId} {ds : List (DataW H)} (hw : (DataW.weightsEach Try.prog ts ds).all (· ≤ reachBytes) = true) {j : Nat} (ht : ts[j]? = some 41) (hd : ds[j]? = some dd)
    (h : DataW.Trod enc Try.prog W base sp held 41 (.slice A len cap) dd ps) :
    ∃ l : List Bool, len = l.length ∧ Kd.C Kd.bool W A l.length l ∧ l.length ≤ cap ∧ (∀ a ∈ l, True) ∧ l.length * 1 ≤ 140737488351232 :=
  C_of_trod Kd.bool (fun _ => True) Try.underlying41 (by kernel_rfl) (by kernel_rfl) (fun n cs x h => by
    obtain ⟨b, hb, _⟩ := DataW.trod_bool Try.underlying4 h
    exact ⟨b, hb, trivial⟩) hw ht hd h

theorem groups_any (n : Int) (A : Option Addr) (cp : Nat) (zs : List Bool) (w : World) (_wn : (Lit.int .i64 n).wf = true) (hr : Kd.C Kd.bool w A zs.length zs) (hc : zs.length ≤ cp) (hy : (∀ a ∈ zs, True) ∧ zs.length * 1 ≤ 140737488351232) :
    Calls Try.prog 6 #[.int .i64 n, .slice A zs.length cp] w fun e w' => e = .returned (.bool true) ∧ Below w.heap.size w w' := by
  clear _wn
  by_cases h : 1 ≤ n ∧ n ≤ 10
  · obtain ⟨h1, h2⟩ := h
    obtain ⟨m, rfl⟩ := Int.eq_ofNat_of_zero_le (show 0 ≤ n by omega)
    exact groups_walk m (by omega) (by omega) w A cp zs hr hc (by have := hy.2; omega)
  · have haw := Lib.hid (awake_calls w)
    have haw2 := Lib.hid (fun W => awake_calls W)
    clear hr hy
    rcases (show n < 1 ∨ (1 ≤ n ∧ 10 < n) by omega) with h | ⟨h, h'⟩
    all_goals
      go_enter Try.func6, Try.ntmps6
      go_wp2_with (first
        | (go_at_call 9; refine haw.out.mono ?_; rintro e w1 ⟨rfl, hb⟩; have HB := Lib.hid hb; have haw3 := Lib.hid (haw2.out w1); clear hb haw haw2)
        | (go_at_call 9; refine haw3.out.mono ?_; rintro e w2 ⟨rfl, hb⟩; have HB2 := Lib.hid hb; clear hb haw3))
      go_ret
      exact ⟨rfl, HB.out.trans (HB2.out.mono HB.out.size)⟩
end Go.Proofs.Ytbcpodbihldfgaa
