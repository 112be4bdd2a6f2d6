/- octet.Out.Data, octet.Out.Var at 321; a sign. -/
import Derived.Test.YtjlohmhmnghjkaaDoorU2
import Derived.ScopeJumps
namespace Go.Proofs.YtjlohmhmnghjkaaDoor
open Go.RowKit Go.Lib Go.Proofs.YtjlohmhmnghjkaaDoorW.PrintWords Go.Proofs.YtjlohmhmnghjkaaDoor.PTopicReads
set_option linter.unusedVariables false
set_option linter.unusedSimpArgs false

set_option maxHeartbeats 4000000 in
set_option maxRecDepth 1000000 in
theorem odata_calls {w : World} {base b : Nat} (h : OW w base b []) (hb : base ≤ w.heap.size) (s : ByteArray) (hs : s.size ≤ 200) : Calls Tryd.prog 13 #[.pointer (some ⟨b, 0, none⟩), .string s] w (OPost w base b ([0, (s.size : Int)] ++ bytesOf s)) := by
  have H := Lib.hid h
  have HB := Lib.hid hb
  have hx : s.extract 0 s.size = s := extract_whole s
  have HS := Lib.hid hs
  have hmin : min (s.size : Int) 65535 = (s.size : Int) := by omega
  have h2 : ((s.size / 256 : Nat) : Int) = 0 := by omega
  have h3 : ((s.size % 256 : Nat) : Int) = (s.size : Int) := by omega
  have H2 := Lib.hid h2
  have H3 := Lib.hid h3
  clear h hb h2 h3
  go_enter Tryd.func13, Tryd.ntmps13
  go_wp2_with (first
    | (go_at_call 37; refine (otwo_calls H.out (by decide) s.size (by have := HS.out; omega) HB.out).mono ?_; rintro e w1 ⟨rfl, ho, hb1⟩; have HO1 := Lib.hid ho; have HB1 := Lib.hid hb1; clear ho hb1)
    | (go_at_call 38; refine (oraw_calls HO1.out (by simp) s (by have := HS.out; omega)).mono ?_; rintro e w2 ⟨rfl, ho, hb1⟩; have HO2 := Lib.hid ho; have HB2 := Lib.hid hb1; clear ho hb1))
  go_ret
  exact ⟨rfl, by have h := HO2.out; rw [H2.out, H3.out] at h; exact h, HB1.out.trans HB2.out⟩
theorem sign_e9 {v n : Nat} (h : SignW ⟨#[195, 169]⟩ v n) : v = 233 ∧ n = 2 := by
  have hz : (⟨#[195, 169]⟩ : ByteArray).size = 2 := rfl
  have b0 : byteAt ⟨#[195, 169]⟩ 0 = 195 := rfl
  have b1 : byteAt ⟨#[195, 169]⟩ 1 = 169 := rfl
  have hn : signN 195 = 2 := rfl
  cases h with
  | none h => rw [hz] at h; cases h
  | one h h1 => rw [b0] at h1; omega
  | first h h1 h2 => rw [b0, hn] at h2; cases h2
  | short m h h1 h2 h0 h3 => rw [b0, hn] at h2; rw [hz] at h3; omega
  | cont m k h h1 h2 h3 k1 k2 h4 =>
    rw [b0, hn] at h2
    obtain rfl : k = 1 := by omega
    rw [b1] at h4
    exact absurd rfl h4
  | bad m h h1 h2 h0 h3 h4 h5 =>
    rw [b0, hn] at h2
    subst h2
    exact absurd h5 (by
      have hv : valW ⟨#[195, 169]⟩ (firstV (byteAt ⟨#[195, 169]⟩ 0) 2) (2 - 1) = 233 := by
        rw [b0]
        show firstV 195 2 * 64 + byteAt ⟨#[195, 169]⟩ 1 % 64 = 233
        rw [b1]
        rfl
      rw [hv]
      unfold badV leastV
      decide)
  | good m h h1 h2 h0 h3 h4 h5 =>
    rw [b0, hn] at h2
    subst h2
    refine ⟨?_, rfl⟩
    rw [b0]
    show firstV 195 2 * 64 + byteAt ⟨#[195, 169]⟩ 1 % 64 = 233
    rw [b1]
    rfl
set_option maxHeartbeats 4000000 in
set_option maxRecDepth 1000000 in
theorem ovar_calls {w : World} {base b : Nat} (h : OW w base b []) : Calls Tryd.prog 34 #[.pointer (some ⟨b, 0, none⟩), .int .u32 321] w (OPost w base b [193, 2]) := by
  have H := Lib.hid h
  have hm : min (321 : Int) 268435455 = 321 := by decide
  have hd : (321 : Int) / 128 = 2 := by decide
  have hb1 : Go.bits .and .u32 321 127 = 65 := by decide
  have hb2 : Go.bits .or .u8 65 128 = 193 := by decide
  have hb3 : Go.bits .and .u32 2 127 = 2 := by decide
  clear h
  go_enter Tryd.func34, Tryd.ntmps34
  go_wp2
  refine wp_scope_jumps 0 (fun a' w' => Hid (OW w' base b [193] ∧ Below base w w') ∧ ∃ (u5 u6 u7 u8 u9 u10 u11 u12 u13 u14 u15 u16 u17 u18 u19 u20 u21 : Value), a' = { tmps := #[.pointer (some ⟨b, 0, none⟩), .int .u32 2, undef, undef, .pointer none, u5, u6, u7, u8, u9, u10, u11, u12, u13, u14, u15, u16, u17, u18, u19, u20, u21], defers := [] }) (fun _ _ => 0) rfl ?_ ?_
  · go_wp2
    go_step3
    go_wp2_with (first
      | (go_at_call 58; refine (obyte_calls H.out (by decide) _).mono ?_; rintro e w1 ⟨rfl, ho, hb1⟩; have HO1 := Lib.hid ho; have HB1 := Lib.hid hb1; clear ho hb1))
    go_step3
    exact ⟨rfl, Lib.hid ⟨HO1.out, HB1.out⟩, _, _, _, _, _, _, _, _, _, _, _, _, _, _, _, _, _, rfl⟩
  · rintro a' w' ⟨HW, u5, u6, u7, u8, u9, u10, u11, u12, u13, u14, u15, u16, u17, u18, u19, u20, u21, rfl⟩
    go_wp2_with (first
      | (go_at_call 58; refine (obyte_calls HW.out.1 (by decide) _).mono ?_; rintro e w1 ⟨rfl, ho, hb1⟩; have HO1 := Lib.hid ho; have HB1 := Lib.hid hb1; clear ho hb1))
    simp only [Exit.jump]
    go_ret
    exact ⟨rfl, HO1.out, HW.out.2.trans HB1.out⟩
end Go.Proofs.YtjlohmhmnghjkaaDoor
