/- word.Sign: its contract. -/
import Derived.Test.YtjlohmhmnghjkaaDoorC2
import Derived.Test.YtjlohmhmnghjkaaDoorC3
import Derived.Test.YtjlohmhmnghjkaaDoorC4
namespace Go.Proofs.YtjlohmhmnghjkaaDoor
open Go.RowKit Go.Lib
set_option linter.unusedVariables false
set_option linter.unusedSimpArgs false

set_option maxHeartbeats 2000000 in
set_option maxRecDepth 1000000 in
theorem sign_calls (s : ByteArray) (w : World) : Calls Tryd.prog 33 #[.string s] w (SignPost s w) := by
  have hb := Lib.hid (Below.refl w.heap.size w)
  by_cases h0 : 0 < s.size
  · obtain ⟨x, hx⟩ : ∃ x, s[0]'h0 = x := ⟨_, rfl⟩
    have hb0 : byteAt s 0 = x.toNat := by rw [byteAt_of h0, hx]
    by_cases hc : (x.toNat : Int) < 128
    · have hne : s.toList.isEmpty = false := by
        rw [Lib.toList_data]
        cases h : s.data.toList with
        | nil => have := Lib.size_eq s; rw [h, List.length_nil] at this; omega
        | cons _ _ => rfl
      have hS := Lib.hid (show SignW s x.toNat 1 by have := SignW.one h0 (by omega); rw [hb0] at this; exact this)
      have hx256 : x.toNat < 256 := x.toNat_lt
      clear hb0
      go_enter Tryd.func33, Tryd.ntmps33
      go_wp2
      go_ret2
      exact ⟨x.toNat, 1, rfl, hS.out, hb.out⟩
    · rcases hN : signN x.toNat with _ | n
      · have hne : s.toList.isEmpty = false := by
          rw [Lib.toList_data]
          cases h : s.data.toList with
          | nil => have := Lib.size_eq s; rw [h, List.length_nil] at this; omega
          | cons _ _ => rfl
        have hS := Lib.hid (SignW.first h0 (by omega) (by rw [hb0]; exact hN))
        have hq1 : ((x.toNat : Int) / 32 == 6) = false := beq_eq_false_iff_ne.2 (by have := (signN_0 hN).1; omega)
        have hq2 : ((x.toNat : Int) / 16 == 14) = false := beq_eq_false_iff_ne.2 (by have := (signN_0 hN).2.1; omega)
        have hq3 : ((x.toNat : Int) / 8 == 30) = false := beq_eq_false_iff_ne.2 (by have := (signN_0 hN).2.2; omega)
        clear hb0 hN
        go_enter Tryd.func33, Tryd.ntmps33
        go_wp2
        go_ret2
        exact ⟨0, 0, rfl, hS.out, hb.out⟩
      · have : n + 1 = 2 ∨ n + 1 = 3 ∨ n + 1 = 4 := by
          rw [← hN]
          unfold signN at hN ⊢
          split <;> (try split) <;> (try split) <;> simp_all
        rcases this with h | h | h
        · exact sign_2 s w x h0 hx hc (hN.trans h)
        · exact sign_3 s w x h0 hx hc (hN.trans h)
        · exact sign_4 s w x h0 hx hc (hN.trans h)
  · have hz : s.size = 0 := by omega
    have hem : s.toList.isEmpty = true := by
      have : s.data.toList = [] := List.length_eq_zero_iff.1 (by rw [← Lib.size_eq]; exact hz)
      rw [Lib.toList_data, this]; rfl
    have hS := Lib.hid (SignW.none hz)
    clear hz h0
    go_enter Tryd.func33, Tryd.ntmps33
    go_wp2
    go_ret2
    exact ⟨0, 0, rfl, hS.out, hb.out⟩
end Go.Proofs.YtjlohmhmnghjkaaDoor
