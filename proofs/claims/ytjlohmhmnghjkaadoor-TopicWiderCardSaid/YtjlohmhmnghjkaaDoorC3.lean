/- word.Sign: a sign of 3 bytes. -/
import Derived.Test.YtjlohmhmnghjkaaDoorC
namespace Go.Proofs.YtjlohmhmnghjkaaDoor
open Go.RowKit Go.Lib
set_option linter.unusedVariables false
set_option linter.unusedSimpArgs false

set_option maxHeartbeats 2000000 in
set_option maxRecDepth 1000000 in
theorem sign_3 (s : ByteArray) (w : World) (x : UInt8) (h0 : 0 < s.size) (hx : s[0]'h0 = x) (hc : ¬ (x.toNat : Int) < 128) (hN : signN x.toNat = 3) :
    Calls Tryd.prog 33 #[.string s] w (SignPost s w) := by
  have hb := Lib.hid (Below.refl w.heap.size w)
  have hne : s.toList.isEmpty = false := by
    rw [Lib.toList_data]
    cases h : s.data.toList with
    | nil => have := Lib.size_eq s; rw [h, List.length_nil] at this; omega
    | cons _ _ => rfl
  have hx256 : x.toNat < 256 := x.toNat_lt
  have hb0 : byteAt s 0 = x.toNat := by rw [byteAt_of h0, hx]
  have H128 := Lib.hid (show 128 ≤ byteAt s 0 by omega)
  have HN := Lib.hid (show signN (byteAt s 0) = 3 by rw [hb0]; exact hN)
  have HF := Lib.hid (show firstV (byteAt s 0) 3 = firstV x.toNat 3 by rw [hb0])
  have hq1 : ((x.toNat : Int) / 32 == 6) = false := beq_eq_false_iff_ne.2 (by have := (signN_3 hN).1; omega)
  have hq2 : ((x.toNat : Int) / 16 == 14) = true := beq_iff_eq.2 (by have := (signN_3 hN).2; omega)
  have hv0 : bits BinOp.and IntKind.i32 (x.toNat : Int) 15 = ((firstV x.toNat 3 : Nat) : Int) := and_first x.toNat 3 hx256 (by omega)
  clear hb0 hN
  obtain ⟨v0, hv⟩ : ∃ v0, firstV x.toNat 3 = v0 := ⟨_, rfl⟩
  have hv32 : v0 < 32 := by rw [← hv]; unfold firstV; split <;> (try split) <;> omega
  rw [hv] at hv0 HF
  clear hv
  by_cases hs : (s.size : Int) < 3
  · go_enter Tryd.func33, Tryd.ntmps33
    go_wp2
    go_ret2
    exact ⟨0, 0, rfl, .short 3 h0 H128.out HN.out (by omega) (by omega), hb.out⟩
  · go_enter Tryd.func33, Tryd.ntmps33
    go_wp2
    go_loopg [6, 7] 3 (fun g v i wx => ∃ k : Nat, (1 ≤ k ∧ k ≤ 3) ∧ k + g = 3 + 1 ∧ i = .int .i64 k ∧ v = .int .i32 ((valW s v0 (k - 1) : Nat) : Int) ∧ wx = w ∧ Hid (contOk s k))
    case atStart => exact ⟨1, by omega, by omega, rfl, rfl, rfl, fun k h1 h2 => by omega⟩
    case round =>
      obtain ⟨k, ⟨hk1, hkn⟩, hkg, rfl, rfl, rfl, hco⟩ := hrel
      by_cases hk : k < 3
      · obtain ⟨g, rfl⟩ : ∃ g, gk = g + 1 := ⟨gk - 1, by omega⟩
        have hks : k < s.size := by omega
        obtain ⟨y, hy⟩ : ∃ y, s[k]'hks = y := ⟨_, rfl⟩
        have hy0 := Lib.hid (show byteAt s k = y.toNat by rw [byteAt_of hks, hy])
        have hstep := Lib.hid (show valW s v0 k = valW s v0 (k - 1) * 64 + y.toNat % 64 by
          obtain ⟨j, rfl⟩ : ∃ j, k = j + 1 := ⟨k - 1, by omega⟩
          rw [← hy0.out]; rfl)
        have hvl : valW s v0 (k - 1) < 131072 + 1 := valW_lt3 s v0 hv32 (k - 1) (by omega)
        obtain ⟨m, hm⟩ : ∃ m, y.toNat % 64 = m := ⟨_, rfl⟩
        have hm64 : m < 64 := by omega
        have hy63 : bits BinOp.and IntKind.u8 (y.toNat : Int) 63 = (m : Int) := by rw [u8_and63 _ (by omega) (by have := y.toNat_lt; omega)]; omega
        rw [hm] at hstep
        have HM := Lib.hid hm
        clear hm
        obtain ⟨V, hV⟩ : ∃ V, valW s v0 (k - 1) = V := ⟨_, rfl⟩
        have HV := Lib.hid hV
        rw [hV] at hstep hvl ⊢
        clear hV
        obtain ⟨or1, or2, or3, or4⟩ := or_step V m hvl hm64
        by_cases hyc : (y.toNat : Int) / 64 = 2
        · have hyb : ((y.toNat : Int) / 64 != 2) = false := by rw [hyc]; rfl
          have HY := Lib.hid hyc
          clear hyc
          go_wp2
          go_roundg g
          case measure => omega
          case rel =>
            refine ⟨k + 1, by omega, by omega, by go_num, ?_, rfl, Lib.hid fun j h1 h2 => ?_⟩
            · rw [Nat.add_sub_cancel, hstep.out]; push_cast; rfl
            · by_cases hj : j < k
              · exact hco.out j h1 hj
              · obtain rfl : j = k := by omega
                have := HY.out
                rw [hy0.out]; omega
        · have hyb : ((y.toNat : Int) / 64 != 2) = true := by simpa [bne, beq_eq_false_iff_ne] using hyc
          have HY := Lib.hid hyc
          clear hyc
          go_wp2
          go_ret2
          exact ⟨0, 0, rfl, .cont 3 k h0 H128.out HN.out (by omega) hk1 hk (by have := HY.out; rw [hy0.out]; omega), hb.out⟩
      · obtain rfl : k = 3 := by omega
        have HC := Lib.hid hco.out
        clear hco
        have HBD := Lib.hid (fun (h : (((valW s v0 (3 - 1) : Nat) : Int) < ((2048 : Nat) : Int) ∨ (1114111 : Int) < ((valW s v0 (3 - 1) : Nat) : Int) ∨ (55296 ≤ ((valW s v0 (3 - 1) : Nat) : Int) ∧ ((valW s v0 (3 - 1) : Nat) : Int) ≤ 57343))) => SignW.bad 3 h0 H128.out HN.out (by omega) (by omega) HC.out (by rw [HF.out]; exact bad_of (n := 3) 2048 rfl h))
        have HGD := Lib.hid (fun (h : ¬ (((valW s v0 (3 - 1) : Nat) : Int) < ((2048 : Nat) : Int) ∨ (1114111 : Int) < ((valW s v0 (3 - 1) : Nat) : Int) ∨ (55296 ≤ ((valW s v0 (3 - 1) : Nat) : Int) ∧ ((valW s v0 (3 - 1) : Nat) : Int) ≤ 57343))) => show SignW s (valW s v0 (3 - 1)) 3 by have := SignW.good 3 h0 H128.out HN.out (by omega) (by omega) HC.out (by rw [HF.out]; exact good_of (n := 3) 2048 rfl h); rw [HF.out] at this; exact this)
        generalize valW s v0 (3 - 1) = V at HBD HGD ⊢
        go_wp2
        all_goals
          first
          | (have hbad := HBD.out (by omega); go_ret2; exact ⟨0, 0, rfl, hbad, below_alloc hb.out (Nat.le_refl _) _⟩)
          | (have hgood := HGD.out (by omega); go_ret2; exact ⟨V, 3, rfl, hgood, below_alloc hb.out (Nat.le_refl _) _⟩)
end Go.Proofs.YtjlohmhmnghjkaaDoor
